/-
  Elements put into a row: copies, what it does to memory.
-/
import Derived.Test.YtiioognflecdgaaGreatS2
import Derived.Lib.Overlaps
import Derived.Lib.AppendZerosOnto
import Derived.Shelf.Spec.SlicesInsert
import Derived.Test.YtiioognflecdgaaGreatS4d
import Derived.Test.YtiioognflecdgaaGreatS4e
import Derived.OpenShut
import Derived.Below
set_option linter.unusedVariables false
set_option linter.unusedSimpArgs false
namespace Go.Sx
section
variable {P:Program} {w w':World}
theorem y5 {b o T:Nat} {cs:Array Value} {us:List Value} (hh:w.heap[b]? = some (.cells cs T (0,0))):(wrote w b o cs us).heap[b]? = some (.cells (putAt cs.toList o us).toArray T (0,0)):=setRow_heap w b cs _ T _ hh
theorem s4 {b o x:Nat} {cs:Array Value} {us:List Value} (h:x≠b):(wrote w b o cs us).heap[x]? = w.heap[x]? := setRow_other w b x _ h
theorem C3 {dT sT ty E b o T:Nat} {dLen dCap sLen sCap k:Nat} {a:Addr} {inf:TypeInfo} {cs:Array Value} {us:List Value} (hu:P.underlying dT=some (.slice E)) (hi:P.info? E=some inf) (hk:Nat.min sLen dLen=k)
  (hl:us.length=k * inf.size) (hsrc : ∀j v,us[j]? = some v→w.cell? (a.add j)=some v) (hh:w.heap[b]? = some (.cells cs T (0,0))) (hfit:o+us.length≤cs.size) (h1 : ∀u∈us,one u) :
  (Builtin.copy_ #[dT,sT] ty #[.slice (some ⟨b,o,none⟩) dLen dCap,.slice (some a) sLen sCap]).run P w = .ok (goInt k) (wrote w b o cs us):=by
 have hf:=run_firstCells_some (P:=P) w inf.size k a sLen sCap us hl hsrc
 have hst:=N1 (P:=P) (o:=o) hh hfit h1
 simp[Builtin.copy_,run_underlying hu,Builtin.lenOf,sizeOf,typeInfo,hi,hk,hf,hst]
theorem a5n (w:World) (o:Obj) (x:Nat) (hx:x<w.heap.size):(w.drew.alloc o).heap[x]? = w.heap[x]? := heap_alloc_old w.drew o (by exact hx)
theorem a5o (w:World) (o:Obj):(w.drew.alloc o).heap[w.heap.size]? = some o:=heap_alloc_new w.drew o
structure InsM (w w':World) (size:Nat) (s v:Value) (n i m b cap:Nat) (cs:Array Value) (us:List Value) (b' cap':Nat) (cs':Array Value) (T':Nat):Prop where
 hv:v = .slice (some ⟨b',0,none⟩) (n+m) cap'
 hh:w'.heap[b']? = some (.cells cs' T' (0,0))
 hc:n+m≤cap'
 hm:cap'≤maxLen
 hs:cs'.size=cap' * size
 old : ∀o,o<i * size→cs'[o]? = cs[o]?
 new : ∀o,o<m * size→cs'[i * size+o]? = us[o]?
 tail : ∀o,i * size≤o→o<n * size→cs'[m * size+o]? = cs[o]?
 os:w'.os=w.os
 tape:w'.tape=w.tape
 output:w'.output=w.output
 size':w.heap.size≤w'.heap.size
 at_:(b'=b∧(∃n',s = .slice (some ⟨b,0,none⟩) n' cap) ∧ ∀x,x≠b→w'.heap[x]? = w.heap[x]?)∨(b'=w.heap.size∧w.heap.size<w'.heap.size ∧ ∀x,x<w.heap.size→w'.heap[x]? = w.heap[x]?)
def InsE (w w':World) (size:Nat) (s v:Value) (n i m b cap:Nat) (cs:Array Value) (us:List Value):Prop := ∃b' cap' cs' T',InsM w w' size s v n i m b cap cs us b' cap' cs' T'
theorem AppM.ins {size n m b cap b' cap' T':Nat} {s v:Value} {cs cs':Array Value} {us:List Value} (h:AppM w w' size s v n m b cap cs us b' cap' cs' T'):InsM w w' size s v n n m b cap cs us b' cap' cs' T' :=
 ⟨h.hv,h.hh,h.hc,h.hm,h.hs,h.old,h.new,fun o h1 h2=>by omega,h.os,h.tape,h.output,h.size',h.at_⟩
def K6 (cs:Array Value) (size n i:Nat) (us:List Value):List Value :=
 putAt (putAt cs.toList ((i+1) * size) ((cs.toList.take (n * size)).drop (i * size))) (i * size) us
theorem U9 {cs:Array Value} {size n i cap:Nat} (hs:cs.size=cap * size) (hc:n≤cap):((cs.toList.take (n * size)).drop (i * size)).length=(n-i) * size:=by
 have:n * size≤cap * size:=Nat.mul_le_mul_right _ hc
 rw[List.length_drop,List.length_take,Array.length_toList,hs,Nat.min_eq_left this,Nat.sub_mul]
theorem b3L {cs:Array Value} {size n i cap:Nat} {us:List Value} (hs:cs.size=cap * size) (hc:n+1≤cap) (hi:i<n) (hu:us.length=size) :
  (K6 cs size n i us).length=cs.size∧(∀o,o<i * size→(K6 cs size n i us)[o]? = cs[o]?)∧(∀o,o<1 * size→(K6 cs size n i us)[i * size+o]? = us[o]?) ∧
   (∀o,i * size≤o→o<n * size→(K6 cs size n i us)[1 * size+o]? = cs[o]?):=by
 have ht:=U9 (i:=i) hs (show n≤cap by omega)
 have h1:(n+1) * size≤cap * size:=Nat.mul_le_mul_right _ hc
 have h2:(i+1) * size+(n-i) * size=(n+1) * size:=by rw[←Nat.add_mul];congr 1;omega
 have h3:(i+1) * size=i * size+size:=by rw[Nat.add_mul,Nat.one_mul]
 have h4:(i+1) * size≤(n+1) * size:=Nat.mul_le_mul_right _ (by omega)
 have hf1:(i+1) * size+((cs.toList.take (n * size)).drop (i * size)).length≤cs.toList.length:=by rw[ht,Array.length_toList,hs];omega
 have hl1:(putAt cs.toList ((i+1) * size) ((cs.toList.take (n * size)).drop (i * size))).length=cs.size:=by rw[o8 _ _ _ hf1,Array.length_toList]
 have hf2:i * size+us.length≤(putAt cs.toList ((i+1) * size) ((cs.toList.take (n * size)).drop (i * size))).length:=by rw[hl1,hu,hs];omega
 refine⟨by rw[K6,o8 _ _ _ hf2,hl1],fun o ho => ?_,fun o ho => ?_,fun o ho1 ho2 => ?_⟩
 ·rw[K6,A5 _ _ _ hf2 _ (by omega),A5 _ _ _ hf1 _ (by omega)]
  simp
 ·rw[K6,K9 _ _ _ hf2 _ (by rw[hu];omega)]
 ·rw[K6,A5 _ _ _ hf2 _ (by rw[hu];omega)]
  rw[show 1 * size+o=(i+1) * size+(o-i * size) by omega,K9 _ _ _ hf1 _ (by rw[ht,Nat.sub_mul];omega),List.getElem?_drop,List.getElem?_take,if_pos (by omega)]
  rw[show i * size+(o-i * size)=o by omega]
  simp
theorem InsM.room {size n i cap b T:Nat} {cs:Array Value} {us:List Value} (hh:w.heap[b]? = some (.cells cs T (0,0))) (hs:cs.size=cap * size) (hc:n+1≤cap) (hm:cap≤maxLen) (hi:i<n) (hu:us.length=size)
  (h':w'.heap[b]? = some (.cells (K6 cs size n i us).toArray T (0,0))) (ho : ∀x,x≠b→w'.heap[x]? = w.heap[x]?) (h1:w'.os=w.os) (h2:w'.tape=w.tape) (h3:w'.output=w.output) (h4:w.heap.size≤w'.heap.size) :
  InsM w w' size (.slice (some ⟨b,0,none⟩) n cap) (.slice (some ⟨b,0,none⟩) (n+1) cap) n i 1 b cap cs us b cap (K6 cs size n i us).toArray T:=by
 obtain⟨e1,e2,e3,e4⟩:=b3L hs hc hi hu
 exact⟨rfl,h',hc,hm,by rw[List.size_toArray,e1,hs],fun o h=>by rw[C7];exact e2 o h,fun o h=>by rw[C7];exact e3 o h,fun o g1 g2=>by rw[C7];exact e4 o g1 g2,h1,h2,h3,h4,.inl ⟨rfl,⟨n,rfl⟩,ho⟩⟩
def Y4 (row:List Value) (cs:Array Value) (size n i:Nat) (us:List Value):List Value :=
 putAt (putAt row (i * size) us) ((i+1) * size) ((cs.toList.take (n * size)).drop (i * size))
theorem b7M {row:List Value} {cs:Array Value} {size n i cap cap':Nat} {us:List Value} (hr:row.length=cap' * size) (hs:cs.size=cap * size) (hc:n≤cap) (hc':n+1≤cap') (hi:i<n) (hu:us.length=size) (h0 : ∀o,o<i * size→row[o]? = cs[o]?) :
  (Y4 row cs size n i us).length=cap' * size∧(∀o,o<i * size→(Y4 row cs size n i us)[o]? = cs[o]?)∧(∀o,o<1 * size→(Y4 row cs size n i us)[i * size+o]? = us[o]?) ∧
   (∀o,i * size≤o→o<n * size→(Y4 row cs size n i us)[1 * size+o]? = cs[o]?):=by
 have ht:=U9 (i:=i) hs hc
 have h1:(n+1) * size≤cap' * size:=Nat.mul_le_mul_right _ hc'
 have h2:(i+1) * size+(n-i) * size=(n+1) * size:=by rw[←Nat.add_mul];congr 1;omega
 have h3:(i+1) * size=i * size+size:=by rw[Nat.add_mul,Nat.one_mul]
 have h4:(i+1) * size≤(n+1) * size:=Nat.mul_le_mul_right _ (by omega)
 have hf1:i * size+us.length≤row.length:=by rw[hu,hr];omega
 have hl1:=o8 row (i * size) us hf1
 have hf2:(i+1) * size+((cs.toList.take (n * size)).drop (i * size)).length≤(putAt row (i * size) us).length:=by rw[hl1,hr,ht];omega
 refine⟨by rw[Y4,o8 _ _ _ hf2,hl1,hr],fun o ho => ?_,fun o ho => ?_,fun o ho1 ho2 => ?_⟩
 ·rw[Y4,A5 _ _ _ hf2 _ (by omega),A5 _ _ _ hf1 _ (by omega),h0 o ho]
 ·rw[Y4,A5 _ _ _ hf2 _ (by omega),K9 _ _ _ hf1 _ (by rw[hu];omega)]
 ·rw[Y4,show 1 * size+o=(i+1) * size+(o-i * size) by omega,K9 _ _ _ hf2 _ (by rw[ht,Nat.sub_mul];omega),List.getElem?_drop,List.getElem?_take,if_pos (by omega)]
  rw[show i * size+(o-i * size)=o by omega]
  simp
theorem InsM.grow {row:List Value} {size n i cap cap' b b' T':Nat} {cs:Array Value} {us:List Value} {s:Value} (hr:row.length=cap' * size) (hs:cs.size=cap * size) (hc:n≤cap) (hc':n+1≤cap') (hm:cap'≤maxLen) (hi:i<n) (hu:us.length=size)
  (h0 : ∀o,o<i * size→row[o]? = cs[o]?) (h':w'.heap[b']? = some (.cells (Y4 row cs size n i us).toArray T' (0,0))) (hb:b'=w.heap.size) (hlt:w.heap.size<w'.heap.size) (ho : ∀x,x<w.heap.size→w'.heap[x]? = w.heap[x]?) (h1:w'.os=w.os) (h2:w'.tape=w.tape) (h3:w'.output=w.output) :
  InsM w w' size s (.slice (some ⟨b',0,none⟩) (n+1) cap') n i 1 b cap cs us b' cap' (Y4 row cs size n i us).toArray T':=by
 obtain⟨e1,e2,e3,e4⟩:=b7M hr hs hc hc' hi hu h0
 exact⟨rfl,h',hc',hm,by rw[List.size_toArray,e1],fun o h=>by rw[C7];exact e2 o h,fun o h=>by rw[C7];exact e3 o h,fun o g1 g2=>by rw[C7];exact e4 o g1 g2,h1,h2,h3,by omega,.inr ⟨hb,hlt,ho⟩⟩
end
end Go.Sx
namespace Go.Sx
def insL {α : Type} (l:List α) (n:Nat) (m:List α):List α := l.take n++(m++l.drop n)
theorem b0z {α : Type} {l m:List α} {n:Nat} (h:n≤l.length):(insL l n m).length=l.length+m.length:=by
 simp only[insL,List.length_append,List.length_take,List.length_drop]
 omega
theorem d0O {α : Type} {l m:List α} {n i:Nat} (h:n≤l.length) (hi:i<n):(insL l n m)[i]? = l[i]? := by
 rw[insL,List.getElem?_append_left (by rw[List.length_take];omega),List.getElem?_take,if_pos hi]
theorem d0Q {α : Type} {l m:List α} {n:Nat} (h:n≤l.length) (hm:m.length=1):(insL l n m)[n]? = m[0]? := by
 rw[insL,List.getElem?_append_right (by rw[List.length_take];omega),List.length_take,Nat.min_eq_left h,Nat.sub_self,List.getElem?_append_left (by omega)]
theorem d0P {α : Type} {l m:List α} {n i:Nat} (h:n≤l.length) (hm:m.length=1) (hi:n<i):(insL l n m)[i]? = l[i-1]? := by
 rw[insL,List.getElem?_append_right (by rw[List.length_take];omega),List.length_take,Nat.min_eq_left h,List.getElem?_append_right (by omega),hm,List.getElem?_drop]
 congr 1;omega
theorem a0U {t:RT} {l m:List t.ty} {i i' j:Nat} (h:l[i]? = m[i']?):celA t l i j=celA t m i' j:=by
 unfold celA nth
 rw[List.getD_eq_getElem?_getD,List.getD_eq_getElem?_getD,h]
def insM (t:RT) (kb:Nat) (args:List V):M V :=
 match args with
 |[.one (.own k v),.one (.att (.int .i64 n)),.one (.own kx vx)] => .get kx fun ex=>match ex with
  |(vx',.row true _ tx lx)=>M.guard (vx==vx') (if hx:tx=t then
    .asrt (fun _=>(Q9 hx lx ()).length=1) (.set kx (vx'+1,.dead) (.get k fun e=>match e with
     |(v',.row true _ t' l)=>M.guard (v==v') (if h:t'=t then
       .asrt (fun _=>0≤n ()∧n ()≤((Q9 h l ()).length:Int)) (askM t.bytes (fun _=>(Q9 h l ()).length+1) (.set k (v'+1,.dead) (newRow kb true t (fun _=>insL (Q9 h l ()) (n ()).toNat (Q9 hx lx ())))))
      else .fail)
     |_ => .fail))else .fail)
  |_ => .fail
 |_ => .fail
def b8n (P:Program) (f:Nat) (t:RT):Prop := ∀(w:World) (s:Value) (n b cap:Nat) (cs:Array Value) (T i vb vcap vT:Nat) (vcs:Array Value) (us:List Value),Old w t.size s n b cap cs T→i≤n→((∃n',s = .slice (some ⟨b,0,none⟩) n' cap)→vb≠b) →
 w.heap[vb]? = some (.cells vcs vT (0,0))→us.length=t.size→(∀(j:Nat) u,us[j]? = some u→w.cell? ⟨vb,0+j,none⟩=some u)→(∀u∈us,one u)→(∀u∈cs.toList.take (n * t.size),one u)→(n+1) * t.bytes≤140737488355328 →
 Calls P f #[s,.int .i64 i,.slice (some ⟨vb,0,none⟩) 1 vcap] w fun e w' => ∃v,e = .returned v∧InsE w w' t.size s v n i 1 b cap cs us
section
variable {P:Program} {B:Base} {e:Env} {w w':World} {σ : St} {L:Locks} {hp:Hp}
theorem c7N (h:HR e hp w) {f k kx key n:Nat} {t:RT} {s x:Value} {l lx:Th (List t.ty)} (hf:b8n P f t) (hs:OwnA e.om k w [] s (.list t l)) (hxo:OwnA e.om kx w [] x (.list t lx)) (hx1:(lx ()).length=1) (hn:n≤(l ()).length)
  (hkd:(hp.get k).2 = .dead) (hkxd:(hp.get kx).2 = .dead) (hne:k≠kx) (hL:((l ()).length+1) * t.bytes≤140737488355328) (hlg:t.O8=false) (hk:keeps (hp.get key) ((hp.get key).1+1,.row true 0 t (fun _=>insL (l ()) n (lx ())))=true) :
  Calls P f #[s,.int .i64 n,x] w fun en w' => ∃v e',en = .returned v∧Stp e hp w e' (hp.set key ((hp.get key).1+1,.row true 0 t (fun _=>insL (l ()) n (lx ())))) w'∧e'.E key=v∧one v:=by
 rcases hxo.list with ⟨_,h0⟩|⟨bx,capx,csx,Tx,vsx,asx,Rx,hbx,hownx⟩
 ·rw[h0]at hx1;cases hx1
 have hcapx:t.size≤csx.size:=by
  have h2:=Rx.hc
  rw[hx1]at h2
  rw[Rx.hs]
  exact Nat.le_mul_of_pos_left _ h2
 have hus : ∀j,(csx.toList.take t.size)[j]? = if j<t.size then csx[j]? else none:=fun j=>by rw[List.getElem?_take];simp
 have hul:(csx.toList.take t.size).length=t.size:=by rw[List.length_take,Array.length_toList];omega
 have hxj : ∀j,j<t.size→csx[j]? = some (vsx 0 j):=fun j hj=>by
  have:=(Rx.hg 0 j (by omega) hj).2
  simpa using this
 have hnews : ∀(j:Nat) u,(csx.toList.take t.size)[j]? = some u→w.cell? ⟨bx,0+j,none⟩=some u:=fun j u hj=>by
  rw[hus]at hj
  split at hj
  ·rw[o9 Rx.hh,Nat.zero_add];exact hj
  ·cases hj
 have hone : ∀u∈csx.toList.take t.size,one u:=fun u hu=>by
  obtain⟨j,hj⟩:=List.getElem?_of_mem hu
  rw[hus]at hj
  split at hj
  ·rename_i hlt
   rw[hxj j hlt]at hj
   cases hj
   exact(hownx 0 j (by omega) hlt).one
  ·cases hj
 have hxv:x = .slice (some ⟨bx,0,none⟩) 1 capx:=by rw[Rx.hv,hx1]
 have fin : ∀(b cap:Nat) (cs:Array Value) (v:Value) (w':World),((s = .slice none 0 0∧l () = []) ∨ ∃(T:Nat) (vs:Nat→Nat→Value) (zs:Nat→Nat→A),RowM w t (l ()) s b cap cs T vs zs∧e.om b=some (k,[]) ∧ ∀i j,i<(l ()).length→j<t.size→OwnA e.om k w ([] ++ [(i,j)]) (vs i j) (zs i j)) →
   InsE w w' t.size s v (l ()).length n 1 b cap cs (csx.toList.take t.size) →
   ∃e',Stp e hp w e' (hp.set key ((hp.get key).1+1,.row true 0 t (fun _=>insL (l ()) n (lx ())))) w'∧e'.E key=v∧one v:=by
  intro b cap cs v w' hO ⟨b',cap',cs',T',A⟩
  have go : ∀(ob:Option Nat) (g:Nat→Path→Option Path),(∀k q p,g k q=some p→(hp.get k).2 = .dead)→(∀x,ob=some x→w.heap.size≤x∧x<w'.heap.size) →
    (∀x,x<w.heap.size→w'.heap[x]? = w.heap[x]? ∨ ∃k q,e.om x=some (k,q)∧(hp.get k).2 = .dead)→(e.mv key ob v g).om b'=some (key,[]) →
    (∀i j q,g k ((i,j)::q)=some ((if i<n then i else i+1,j)::q))→(∀i j q,g kx ((i,j)::q)=some ((n+i,j)::q)) →
    (∀x k y q,e.om x=some (k,y::q)→w'.heap[x]? = w.heap[x]?) →
    ∃e',Stp e hp w e' (hp.set key ((hp.get key).1+1,.row true 0 t (fun _=>insL (l ()) n (lx ())))) w'∧e'.E key=v∧one v:=by
   intro ob g hg hob hold hb' hg0 hg2 hheap
   refine⟨e.mv key ob v g,?_,by simp[Env.mv],by rw[A.hv];rfl⟩
   refine Y7 h key v _ ob g (Nat.lt_succ_self _) hk hg A.os A.tape A.output A.size' hob hold fun hsr => ?_
   have hnob : ∀x y,e.om x=some y→ob≠some x:=fun x y h1 h2=>by have:=h.oOk x y h1;have:=(hob x h2).1;omega
   have hll:(insL (l ()) n (lx ())).length=(l ()).length+1:=by rw[b0z hn,hx1]
   let vs':Nat→Nat→Value:=fun i j=>(cs'[i * t.size+j]?).getD .nilFunc
   have hv' : ∀i j,i<(insL (l ()) n (lx ())).length→j<t.size→cs'[i * t.size+j]? = some (vs' i j):=fun i j hi hj=>by
    rw[hll]at hi
    have h1:=Y3 hi hj
    have h2:((l ()).length+1) * t.size≤cap' * t.size:=Nat.mul_le_mul_right _ A.hc
    have h3:i * t.size+j<cs'.size:=by rw[A.hs];omega
    simp only[vs',Array.getElem?_eq_getElem h3,Option.getD_some]
   have hRow:RowM w' t (insL (l ()) n (lx ())) v b' cap' cs' T' vs' (asOf t (insL (l ()) n (lx ()))) :=
    ⟨by rw[hll];exact A.hv,A.hh,by rw[hll];exact A.hc,A.hm,A.hs,by rw[hll];exact I2.of hL hlg,fun i j hi hj=>⟨E7 hj,hv' i j hi hj⟩⟩
   have hcell : ∀i i' j,i<(l ()).length→j<t.size→i'<(insL (l ()) n (lx ())).length→i'=(if i<n then i else i+1)→cs'[i' * t.size+j]? = cs[i * t.size+j]? → celA t (insL (l ()) n (lx ())) i' j=celA t (l ()) i j →
     OwnA (e.mv key ob v g).om key w' ([] ++ [(i',j)]) (vs' i' j) (asOf t (insL (l ()) n (lx ())) i' j):=by
    intro i i' j hi hj hi' he hc hcel
    rcases hO with ⟨_,h2⟩|⟨T,vs,zs,R,hbo,hown⟩
    ·rw[h2]at hi;simp at hi
    ·obtain⟨r1,r2⟩:=R.hg i j hi hj
     have h3:=hv' i' j hi' hj
     rw[hc,r2]at h3
     rw[←Option.some.inj h3,S9 (hcel.trans r1),he]
     exact(hown i j hi hj).mono _ fun b'' r hb''=>⟨Env.a4E (hnob _ _ hb'') hb'' (by simpa using hg0 i j r),hheap b'' k (i,j) r hb''⟩
   show OwnA (e.mv key ob v g).om key w' [] ((e.mv key ob v g).E key) (.list t fun _=>insL (l ()) n (lx ()))
   rw[show(e.mv key ob v g).E key=v by simp[Env.mv]]
   refine hRow.own hb' fun i j hi hj => ?_
   rw[hll]at hi
   have hij:=Y3 (show i<i+1 by omega) hj
   rcases Nat.lt_trichotomy i n with hlt|heq|hgt
   ·refine hcell i i j (by omega) hj (by rw[hll];omega) (by rw[if_pos hlt]) (A.old _ (Y3 hlt hj)) (a0U (d0O hn hlt))
   ·subst heq
    have h1:=A.new j (by omega)
    have h2:=hv' i j (by rw[hll];omega) hj
    rw[h1,hus,if_pos hj,hxj j hj]at h2
    have hcel:celA t (insL (l ()) i (lx ())) i j=celA t (lx ()) 0 j:=a0U (d0Q hn hx1)
    rw[←Option.some.inj h2,S9 (hcel.trans (Rx.hg 0 j (by omega) hj).1)]
    exact(hownx 0 j (by omega) hj).mono _ fun b'' r hb''=>⟨Env.a4E (hnob _ _ hb'') hb'' (by simpa using hg2 0 j r),hheap b'' kx (0,j) r hb''⟩
   ·obtain⟨i0,rfl⟩ : ∃i0,i=i0+1:=⟨i-1,by omega⟩
    refine hcell i0 (i0+1) j (by omega) hj (by rw[hll];omega) (by rw[if_neg (by omega)]) ?_ (a0U (d0P hn hx1 hgt))
    have h5:n * t.size≤i0 * t.size:=Nat.mul_le_mul_right _ (by omega)
    have h6:=A.tail (i0 * t.size+j) (by omega) (Y3 (by omega) hj)
    rw[←h6]
    congr 1
    rw[Nat.add_mul,Nat.one_mul]
    omega
  let g:Bool→Nat→Path→Option Path:=fun inplace k' q=>if k'=k then(match q with
    |[]=>if inplace then some []else none
    |y::r=>some ((if y.1<n then y.1 else y.1+1,y.2)::r))
   else if k'=kx then(match q with
    |[]=>none
    |y::r=>some ((n+y.1,y.2)::r))
   else none
  have hgd : ∀ip k q p,g ip k q=some p→(hp.get k).2 = .dead:=fun ip k' q p hg=>by
   simp only[g]at hg
   split at hg
   ·rename_i hk';rw[hk'];exact hkd
   ·split at hg
    ·rename_i hk';rw[hk'];exact hkxd
    ·cases hg
  have hg0 : ∀ip i j q,g ip k ((i,j)::q)=some ((if i<n then i else i+1,j)::q):=fun ip i j q=>by simp[g]
  have hg2 : ∀ip i j q,g ip kx ((i,j)::q)=some ((n+i,j)::q):=fun ip i j q=>by simp[g,Ne.symm hne]
  rcases A.at_ with ⟨hbb,⟨n',hsv⟩,hoth⟩|⟨hbb,hlt,hall⟩
  ·rcases hO with ⟨h1,_⟩|⟨T,vs,zs,R,hbo,hown⟩
   ·rw[h1]at hsv;cases hsv
   ·subst hbb
    refine go none (g true) (hgd true) (fun x hx=>by cases hx) (fun x hx => ?_) (Env.a4E (by simp) hbo (by simp[g])) (hg0 true) (hg2 true) fun x k' y q hx=>hoth x fun hh => ?_
    ·by_cases hxb:x=b'
     ·subst hxb;exact .inr ⟨k,[],hbo,hkd⟩
     ·exact .inl (hoth x hxb)
    ·rw[hh,hbo]at hx
     cases hx
  ·subst hbb
   exact go (some w.heap.size) (g false) (hgd false) (fun x hx=>by cases hx;exact⟨Nat.le_refl _,hlt⟩) (fun x hx => .inl (hall x hx)) Env.b4C (hg0 false) (hg2 false) fun x k' y q hx=>hall x (h.oOk x _ hx)
 rw[hxv]
 rcases hs.list with ⟨h1,h2⟩|⟨b,cap,cs,T,vs,zs,R,hbo,hown⟩
 ·have h0:(l ()).length=0:=by rw[h2];rfl
  refine(hf w s 0 0 0 #[] 0 n bx capx Tx csx (csx.toList.take t.size) (by rw[h1];exact .nil _ _ _ _ rfl rfl) (by omega) (fun⟨n',hh⟩=>by rw[h1]at hh;cases hh) Rx.hh hul hnews hone (fun u hu=>by simp at hu) (by rw[h0]at hL;exact hL)).mono ?_
  rintro en w' ⟨v,rfl,hE⟩
  have hE':InsE w w' t.size s v (l ()).length n 1 0 0 #[] (csx.toList.take t.size):=by rw[h0];exact hE
  obtain⟨e',g1,g2,g3⟩:=fin 0 0 #[] v w' (.inl ⟨h1,h2⟩) hE'
  exact⟨v,e',rfl,g1,g2,g3⟩
 ·refine(hf w s (l ()).length b cap cs T n bx capx Tx csx (csx.toList.take t.size) (by rw[R.hv];exact .row _ b cap cs T R.hh R.hc R.hm R.hs) hn (fun _ hh => ?_) Rx.hh hul hnews hone (fun u hu => ?_) hL).mono ?_
  ·rw[hh,hbo]at hbx
   cases hbx
   exact hne rfl
  ·obtain⟨o,ho⟩:=List.getElem?_of_mem hu
   rw[List.getElem?_take]at ho
   split at ho
   ·rename_i hlt
    have hsz:0<t.size:=by
     rcases Nat.eq_zero_or_pos t.size with h0|h0
     ·rw[h0]at hlt;simp at hlt
     ·exact h0
    have hi:o / t.size<(l ()).length:=Nat.div_lt_of_lt_mul (by rw[Nat.mul_comm];exact hlt)
    have hj:=Nat.mod_lt o hsz
    have h2:=(R.hg _ _ hi hj).2
    rw[Nat.mul_comm,Nat.div_add_mod]at h2
    rw[Array.getElem?_toList,h2]at ho
    cases ho
    exact(hown _ _ hi hj).one
   ·cases ho
  ·rintro en w' ⟨v,rfl,hE⟩
   obtain⟨e',g1,g2,g3⟩:=fin b cap cs v w' (.inr ⟨T,vs,zs,R,hbo,hown⟩) hE
   exact⟨v,e',rfl,g1,g2,g3⟩
theorem b9H {f:Nat} {t:RT} (he:enters P f) (hf:b8n P f t) (hlg:t.O8=false:=by rfl) : ∀L kb,ClOk P fun _ f' args σ K=>f'=f∧(a2h (.raw (insM t)) kb args).wp L σ.hp fun v hp=>K v ⟨σ.tm,hp,σ.up⟩:=by
 intro L kb key f' args σ K ⟨hff,hm⟩
 subst hff
 refine⟨he,fun B e w tmps vals h hv => ?_⟩
 unfold a2h insM at hm
 simp only at hm
 split at hm
 ·rename_i k v n kx vx
  match vals,hv with
  |[s,i,x],hv =>
   simp only[VRs]at hv
   obtain⟨hvs,hvi,hvx,_⟩:=hv
   obtain⟨hi,_⟩:=R6 hvi
   simp only[VR]at hvs hvx
   have hvs:=hvs.1
   have hvx:=hvx.1
   simp only[CR]at hvs hvx
   replace hm:=M.u4 hm
   split at hm
   ·rename_i vx' gx tx lx hxx
    replace hm:=M.p4 hm
    obtain⟨hg,hm⟩:=hm
    have hg:vx=vx':=by simpa using hg
    subst hg
    split at hm
    ·rename_i htx
     subst htx
     simp only[Q9]at hm
     obtain⟨ho1,hm⟩:=hm
     replace hm:=M.D3 hm
     obtain⟨hk1,hm⟩:=hm
     have hst1:=Q0 h.hr kx (vx+1) (by rw[hxx];exact Nat.lt_succ_self _) hk1
     have hr1:=(Stps.one hst1).hr h.hr
     replace hm:=M.u4 hm
     split at hm
     ·rename_i v' g t' l hxk
      replace hm:=M.p4 hm
      obtain⟨hg,hm⟩:=hm
      have hg:v=v':=by simpa using hg
      subst hg
      split at hm
      ·rename_i htt
       subst htt
       simp only at hm
       obtain⟨ho2,hm⟩:=hm
       obtain⟨ho3,hm⟩:=hm
       replace hm:=M.D3 hm
       obtain⟨hk2,hm⟩:=hm
       have hne:k≠kx:=by
        rintro rfl
        rw[Tr.e8]at hxk
        cases hxk
       have hst2:=Q0 hr1 k (v+1) (by rw[hxk];exact Nat.lt_succ_self _) hk2
       have hr2:=(Stps.one hst2).hr hr1
       have hxk0:=hxk
       rw[Tr.j7 _ _ hne]at hxk0
       have hcs:=h.hr.chs k
       rw[hxk0]at hcs
       have hcx:=h.hr.chs kx
       rw[hxx]at hcx
       simp only[ChR]at hcs hcx
       have hs':s=e.E k:=hvs.2 (by rw[hxk0])
       have hx':x=e.E kx:=hvx.2 (by rw[hxx])
       rw[←hs']at hcs
       rw[←hx']at hcx
       have ho2:=ho2.out
       have ho3:((l ()).length+1) * t'.bytes≤140737488355328:=ho3.out
       obtain⟨hk3,hK⟩:=a0E hm
       rw[show[s,i,x].toArray = #[s,.int .i64 ((n ()).toNat:Int),x] by rw[hi,Int.toNat_of_nonneg ho2.1]]
       refine(c7N hr2 (key:=kb) hf hcs hcx ho1.out (by have:=ho2.2;omega) (by rw[Tr.e8]) (by rw[Tr.j7 _ _ (Ne.symm hne),Tr.e8]) hne ho3 hlg hk3).mono ?_
       rintro en w' ⟨v,e',rfl,hst3,hE,h1⟩
       have hall:=(Stps.one hst1).trans ((Stps.one hst2).trans (.one hst3))
       exact⟨v,_,e',_,rfl,hK,hall.rel (tm := σ.tm) (up := σ.up) h,a7K h1 hE⟩
      ·exact hm.elim
     ·exact hm.elim
    ·exact hm.elim
   ·exact hm.elim
  |[],hv=>simp only[VRs]at hv
  |[_],hv=>simp only[VRs]at hv;exact hv.2.elim
  |[_,_],hv=>simp only[VRs]at hv;exact hv.2.2.elim
  |_::_::_::_::_,hv=>simp only[VRs]at hv;exact hv.2.2.2.elim
 ·exact hm.elim
end
end Go.Sx
namespace Go.Sx
section
variable {H:Type} {ec:TypeId×Value→H} {P:Program} {w:World} {base:Nat} {spare:Nat→Bool} {held:Bool}
def RT.lk:RT→RT
 | .pcls => .longs
 | .ints => .longs
 |_ => .long
def fitK:(k:RT)→List k.ty→Prop
 | .long,l=>l.length≤1048576
 | .longs,l=>l.length≤1048576 ∧ ∀x∈(l:List (List Unit)),x.length≤1048576
 |_,_=>False
def Sw (w:World):Nat→Prop:=fun b=>b<w.heap.size
def b5j (w:World) (v:Value):Option RT→Prop
 |none => ∃n:Int,v = .int .i64 n ∧ -9223372036854775808≤n∧n≤9223372036854775807
 |some t => ∃l:List t.lk.ty,Rep (Sw w) w v (.list t.lk fun _=>l)∧(fitK t.lk l → ∃m:List t.ty,Rep (Sw w) w v (.list t fun _=>m))
theorem b5j.mk {v:Value} {t k:RT} (hk:t.lk=k) (l:List k.ty) (h:Rep (Sw w) w v (.list k fun _=>l)) (hm:fitK k l → ∃m:List t.ty,Rep (Sw w) w v (.list t fun _=>m)):b5j w v (some t):=by
 subst hk
 exact⟨l,h,hm⟩
theorem b5j.out {v:Value} {t k:RT} (hk:t.lk=k) (h:b5j w v (some t)) : ∃l:List k.ty,Rep (Sw w) w v (.list k fun _=>l)∧(fitK k l → ∃m:List t.ty,Rep (Sw w) w v (.list t fun _=>m)):=by
 subst hk
 exact h
theorem I2.small {t:RT} {n:Nat} (h:n≤1048576):I2 t n:=by
 refine⟨?_,by omega⟩
 have:t.bytes≤200:=by cases t<;>decide
 calc n * t.bytes≤1048576 * 200:=Nat.mul_le_mul h this
  _≤140737488355328:=by decide
theorem I2.long {t:RT} {n:Nat} (ht:t.O8=true) (h:n≤9223372036854775807):I2 t n:=by
 refine⟨?_,h⟩
 have:t.bytes=0:=by cases t<;>first|rfl|cases ht
 simp[this]
end
end Go.Sx
namespace Go.Sx
theorem c8s {α : Type} {l:List α} {n i:Nat} (hi:i<n):(l.eraseIdx n)[i]? = l[i]? := by
 rw[List.getElem?_eraseIdx,if_pos hi]
theorem c8t {α : Type} {l:List α} {n i:Nat} (hi:n≤i):(l.eraseIdx n)[i]? = l[i+1]? := by
 rw[List.getElem?_eraseIdx,if_neg (by omega)]
def delM (t:RT) (kb:Nat) (args:List V):M V :=
 match args with
 |[.one (.own k v),.one (.att (.int .i64 n)),.one (.att (.int .i64 m))] => .get k fun e=>match e with
  |(v',.row true _ t' l)=>M.guard (v==v') (if h:t'=t then
    .asrt (fun _=>0≤n ()∧m ()=n ()+1∧n ()<((Q9 h l ()).length:Int)) (.set k (v'+1,.dead) (newRow kb true t (fun _=>(Q9 h l ()).eraseIdx (n ()).toNat)))
   else .fail)
  |_ => .fail
 |_ => .fail
def b5v (m:Nat→List V→M V) (kb:Nat) (args:List V):M V :=
 match args with
 | .one s::r=>(c0F (kb+100) s).bind fun s'=>m kb (.one s'::r)
 |_ => .fail
structure DelE (w w':World) (size:Nat) (v:Value) (n i b cap:Nat) (cs:Array Value) (T:Nat) (cs':Array Value):Prop where
 hv:v = .slice (some ⟨b,0,none⟩) (n-1) cap
 hh:w'.heap[b]? = some (.cells cs' T (0,0))
 hs:cs'.size=cs.size
 old : ∀o,o<i * size→cs'[o]? = cs[o]?
 tail : ∀o,i * size≤o→o<(n-1) * size→cs'[o]? = cs[size+o]?
 os:w'.os=w.os
 tape:w'.tape=w.tape
 output:w'.output=w.output
 size':w.heap.size≤w'.heap.size
 oth : ∀x,x≠b→w'.heap[x]? = w.heap[x]?
def c2J (P:Program) (f:Nat) (t:RT):Prop := ∀(w:World) (n b cap:Nat) (cs:Array Value) (T i:Nat),w.heap[b]? = some (.cells cs T (0,0))→n≤cap→cap≤maxLen→cs.size=cap * t.size→i<n→(∀u∈cs.toList.take (n * t.size),one u)→n * t.bytes≤140737488355328 →
 Calls P f #[.slice (some ⟨b,0,none⟩) n cap,.int .i64 i,.int .i64 ((i:Int)+1)] w fun e w' => ∃v cs',e = .returned v∧DelE w w' t.size v n i b cap cs T cs'
section
variable {P:Program} {B:Base} {e:Env} {w w':World} {σ : St} {L:Locks} {hp:Hp}
theorem c8D (h:HR e hp w) {f k key n:Nat} {t:RT} {s:Value} {l:Th (List t.ty)} (hf:c2J P f t) (hs:OwnA e.om k w [] s (.list t l)) (hn:n<(l ()).length)
  (hkd:(hp.get k).2 = .dead) (hlg:t.O8=false) (hk:keeps (hp.get key) ((hp.get key).1+1,.row true 0 t (fun _=>(l ()).eraseIdx n))=true) :
  Calls P f #[s,.int .i64 n,.int .i64 ((n:Int)+1)] w fun en w' => ∃v e',en = .returned v∧Stp e hp w e' (hp.set key ((hp.get key).1+1,.row true 0 t (fun _=>(l ()).eraseIdx n))) w'∧e'.E key=v∧one v:=by
 rcases hs.list with ⟨_,h2⟩|⟨b,cap,cs,T,vs,zs,R,hbo,hown⟩
 ·rw[h2]at hn;simp at hn
 rw[R.hv]
 have hL:=R.hl
 refine(hf w (l ()).length b cap cs T n R.hh R.hc R.hm R.hs hn (fun u hu => ?_) hL.1).mono ?_
 ·obtain⟨o,ho⟩:=List.getElem?_of_mem hu
  rw[List.getElem?_take]at ho
  split at ho
  ·rename_i hlt
   have hsz:0<t.size:=by
    rcases Nat.eq_zero_or_pos t.size with h0|h0
    ·rw[h0]at hlt;simp at hlt
    ·exact h0
   have hi:o / t.size<(l ()).length:=Nat.div_lt_of_lt_mul (by rw[Nat.mul_comm];exact hlt)
   have hj:=Nat.mod_lt o hsz
   have h2:=(R.hg _ _ hi hj).2
   rw[Nat.mul_comm,Nat.div_add_mod]at h2
   rw[Array.getElem?_toList,h2]at ho
   cases ho
   exact(hown _ _ hi hj).one
  ·cases ho
 ·rintro en w' ⟨v,cs',rfl,A⟩
  let g:Nat→Path→Option Path:=fun k' q=>if k'=k then(match q with
    |[]=>some []
    |y::r=>if y.1<n then some (y::r)else if y.1=n then none else some ((y.1-1,y.2)::r))
   else none
  have hgd : ∀k q p,g k q=some p→(hp.get k).2 = .dead:=fun k' q p hg=>by
   simp only[g]at hg
   split at hg
   ·rename_i hk';rw[hk'];exact hkd
   ·cases hg
  refine⟨v,e.mv key none v g,rfl,?_,by simp[Env.mv],by rw[A.hv];rfl⟩
  refine Y7 h key v _ none g (Nat.lt_succ_self _) hk hgd A.os A.tape A.output A.size' (fun x hx=>by cases hx) (fun x hx => ?_) fun hsr => ?_
  ·by_cases hxb:x=b
   ·subst hxb;exact .inr ⟨k,[],hbo,hkd⟩
   ·exact .inl (A.oth x hxb)
  ·have hll:((l ()).eraseIdx n).length=(l ()).length-1:=by rw[List.length_eraseIdx,if_pos hn]
   have hb':(e.mv key none v g).om b=some (key,[]):=Env.a4E (by simp) hbo (by simp[g])
   have hheap : ∀x y q,e.om x=some (k,y::q)→w'.heap[x]? = w.heap[x]? := fun x y q hx=>A.oth x fun hh=>by
    rw[hh,hbo]at hx
    cases hx
   let vs':Nat→Nat→Value:=fun i j=>(cs'[i * t.size+j]?).getD .nilFunc
   have hv' : ∀i j,i<((l ()).eraseIdx n).length→j<t.size→cs'[i * t.size+j]? = some (vs' i j):=fun i j hi hj=>by
    rw[hll]at hi
    have h1:=Y3 hi hj
    have h2:((l ()).length-1) * t.size≤cap * t.size:=Nat.mul_le_mul_right _ (by have:=R.hc;omega)
    have h3:i * t.size+j<cs'.size:=by rw[A.hs,R.hs];omega
    simp only[vs',Array.getElem?_eq_getElem h3,Option.getD_some]
   have hRow:RowM w' t ((l ()).eraseIdx n) v b cap cs' T vs' (asOf t ((l ()).eraseIdx n)) :=
    ⟨by rw[hll];exact A.hv,A.hh,by rw[hll];have:=R.hc;omega,R.hm,by rw[A.hs,R.hs],by
     rw[hll]
     refine⟨Nat.le_trans (Nat.mul_le_mul_right _ (Nat.sub_le _ _)) hL.1,by have:=hL.2;omega⟩,fun i j hi hj=>⟨E7 hj,hv' i j hi hj⟩⟩
   have hcell : ∀i i' j,i<(l ()).length→j<t.size→i'<((l ()).eraseIdx n).length→g k [(i,j)]=some [(i',j)]→(∀r,g k ((i,j)::r)=some ((i',j)::r))→cs'[i' * t.size+j]? = cs[i * t.size+j]? → celA t ((l ()).eraseIdx n) i' j=celA t (l ()) i j →
     OwnA (e.mv key none v g).om key w' ([] ++ [(i',j)]) (vs' i' j) (asOf t ((l ()).eraseIdx n) i' j):=by
    intro i i' j hi hj hi' _ hgr hc hcel
    obtain⟨r1,r2⟩:=R.hg i j hi hj
    have h3:=hv' i' j hi' hj
    rw[hc,r2]at h3
    rw[←Option.some.inj h3,S9 (hcel.trans r1)]
    exact(hown i j hi hj).mono _ fun b'' r hb''=>⟨Env.a4E (by simp) hb'' (by simpa using hgr r),hheap b'' (i,j) r hb''⟩
   show OwnA (e.mv key none v g).om key w' [] ((e.mv key none v g).E key) (.list t fun _=>(l ()).eraseIdx n)
   rw[show(e.mv key none v g).E key=v by simp[Env.mv]]
   refine hRow.own hb' fun i j hi hj => ?_
   rw[hll]at hi
   rcases Nat.lt_or_ge i n with hlt|hge
   ·exact hcell i i j (by omega) hj (by rw[hll];omega) (by simp[g,hlt]) (fun r=>by simp[g,hlt]) (A.old _ (Y3 hlt hj)) (a0U (c8s hlt))
   ·refine hcell (i+1) i j (by omega) hj (by rw[hll];omega) (by simp[g,show ¬i+1<n by omega,show ¬i+1=n by omega]) (fun r=>by simp[g,show ¬i+1<n by omega,show ¬i+1=n by omega]) ?_ (a0U (c8t hge))
    have h5:n * t.size≤i * t.size:=Nat.mul_le_mul_right _ hge
    have h6:=A.tail (i * t.size+j) (by omega) (Y3 (by omega) hj)
    rw[h6]
    congr 1
    rw[Nat.add_mul,Nat.one_mul]
    omega
theorem c8C {f:Nat} {t:RT} (he:enters P f) (hf:c2J P f t) (hlg:t.O8=false:=by rfl) : ∀L kb,ClOk P fun _ f' args σ K=>f'=f∧(a2h (.raw (delM t)) kb args).wp L σ.hp fun v hp=>K v ⟨σ.tm,hp,σ.up⟩:=by
 intro L kb key f' args σ K ⟨hff,hm⟩
 subst hff
 refine⟨he,fun B e w tmps vals h hv => ?_⟩
 unfold a2h delM at hm
 simp only at hm
 split at hm
 ·rename_i k v n m
  match vals,hv with
  |[s,i,j],hv =>
   simp only[VRs]at hv
   obtain⟨hvs,hvi,hvj,_⟩:=hv
   obtain⟨hi,_⟩:=R6 hvi
   obtain⟨hj,_⟩:=R6 hvj
   simp only[VR]at hvs
   have hvs:=hvs.1
   simp only[CR]at hvs
   replace hm:=M.u4 hm
   split at hm
   ·rename_i v' g t' l hxk
    replace hm:=M.p4 hm
    obtain⟨hg,hm⟩:=hm
    have hg:v=v':=by simpa using hg
    subst hg
    split at hm
    ·rename_i htt
     subst htt
     simp only[Q9]at hm
     obtain⟨ho,hm⟩:=hm
     replace hm:=M.D3 hm
     obtain⟨hk1,hm⟩:=hm
     have hst1:=Q0 h.hr k (v+1) (by rw[hxk];exact Nat.lt_succ_self _) hk1
     have hr1:=(Stps.one hst1).hr h.hr
     have hcs:=h.hr.chs k
     rw[hxk]at hcs
     simp only[ChR]at hcs
     have hs':s=e.E k:=hvs.2 (by rw[hxk])
     rw[←hs']at hcs
     have ho:0≤n ()∧m ()=n ()+1∧n ()<((l ()).length:Int):=ho.out
     obtain⟨hk3,hK⟩:=a0E hm
     have hni:(((n ()).toNat:Nat):Int)=n ():=Int.toNat_of_nonneg ho.1
     rw[show[s,i,j].toArray = #[s,.int .i64 ((n ()).toNat:Int),.int .i64 (((n ()).toNat:Int)+1)] by rw[hi,hj,hni,ho.2.1]]
     refine(c8D hr1 (key:=kb) (n:=(n ()).toNat) hf hcs (by omega) (by rw[Tr.e8]) hlg hk3).mono ?_
     rintro en w' ⟨v,e',rfl,hst3,hE,h1⟩
     have hall:=(Stps.one hst1).trans (.one hst3)
     exact⟨v,_,e',_,rfl,hK,hall.rel (tm := σ.tm) (up := σ.up) h,a7K h1 hE⟩
    ·exact hm.elim
   ·exact hm.elim
  |[],hv=>simp only[VRs]at hv
  |[_],hv=>simp only[VRs]at hv;exact hv.2.elim
  |[_,_],hv=>simp only[VRs]at hv;exact hv.2.2.elim
  |_::_::_::_::_,hv=>simp only[VRs]at hv;exact hv.2.2.2.elim
 ·exact hm.elim
theorem Stps.VRs {e':Env} {hp':Hp} (h:Stps e hp w e' hp' w') : ∀ {vs:List Value} {xs:List V},Sx.VRs e hp w vs xs→Sx.VRs e' hp' w' vs xs
 |[],[],_=>by simp only[Sx.VRs]
 |v::vs,x::xs,hc=>by
  simp only[Sx.VRs]at hc ⊢
  exact⟨h.VR hc.1,Stps.VRs h hc.2⟩
 |[],_::_,hc=>by simp only[Sx.VRs]at hc
 |_::_,[],hc=>by simp only[Sx.VRs]at hc
theorem b3B {f:Nat} {m:Nat→List V→M V} (hm0 : ∀L kb,ClOk P fun _ f' args σ K=>f'=f∧(a2h (.raw m) kb args).wp L σ.hp fun v hp=>K v ⟨σ.tm,hp,σ.up⟩) (he:enters P f) :
  ∀L kb,ClOk P fun _ f' args σ K=>f'=f∧(a2h (.raw (b5v m)) kb args).wp L σ.hp fun v hp=>K v ⟨σ.tm,hp,σ.up⟩:=by
 intro L kb key f' args σ K ⟨hff,hm⟩
 subst hff
 refine⟨he,fun B e w tmps vals h hv => ?_⟩
 unfold a2h b5v at hm
 simp only at hm
 split at hm
 ·rename_i s r
  cases vals with
  |nil=>simp only[VRs]at hv
  |cons u vs =>
   simp only[VRs]at hv
   obtain⟨hvs,hvr⟩:=hv
   simp only[VR]at hvs
   by_cases hun:s = .unk
   ·subst hun
    exact((hm0 L kb key f' (.one .unk::r) σ K ⟨rfl,hm⟩).2 B e w tmps (u::vs) h (by
     simp only[VRs,VR]
     exact⟨hvs,hvr⟩))
   rw[M.wp_bind]at hm
   obtain⟨e',hp',s',hst,hc,hm⟩:=a7R h.hr hvs.1 hm
   have hr:=hst.rel (tm := σ.tm) (up := σ.up) h
   have h1:y8 s' u:=by
    have h2:=hvs.2
    unfold y8 at h2
    split at h2
    ·exact(hun rfl).elim
    ·exact y8.D5 h2
   exact((hm0 L kb key f' (.one s'::r) ⟨σ.tm,hp',σ.up⟩ K ⟨rfl,hm⟩).2 B e' w tmps (u::vs) hr (by
    simp only[VRs]
    refine⟨by simp only[VR];exact⟨hc,h1⟩,?_⟩
    exact hst.VRs hvr))
 ·exact hm.elim
theorem a1L {ops:Array Oper} {o:Oper} {a:Act} {w:World} {K:Act→World→Prop} {Q:Exit→Act→World→Prop} {E:Prop}
  (hg:o.guard=none) (s x:Operand) (t:TypeId) (hop:o.op=Op.call { callee:=Callee.builtin Builtin.append,args := #[s,x],argTypes := #[t,t] })
  (v u:Value) (hs:a.eval s=v) (hx:a.eval x=u) {v':Value} {w':World} (hr:(Builtin.append_ #[t,t] o.type #[v,u]).run P w = .ok v' w') (hK:K (a.put o.dst v') w') :
  if Region.wanted o (yielded ops a.tmps)=true then Oper.wp P o a w K Q else E:=by
 have hw:Region.wanted o (yielded ops a.tmps)=true:=by simp[Region.wanted,hg]
 rw[if_pos hw]
 unfold Oper.wp
 simp[execOp,hop,resolve,invoke,builtin,hs,hx,hr,Result.andThen]
 exact hK
theorem b1u (w:World) {o:Oper} {a:Act} {K:Act→World→Prop} {Q:Exit→Act→World→Prop} (x:Operand) (t:TypeId)
  (ho:o.op = .call { callee := .builtin .clear,args := #[x],argTypes := #[t] }) (u:Value) (hx:a.eval x=u) {v':Value} {w':World}
  (hr:(Builtin.clear_ #[t] o.type #[u]).run P w = .ok v' w') (h:K (a.put o.dst v') w'):o.wp P a w K Q:=by
 unfold Oper.wp execOp
 simp only[ho,resolve,invoke,builtin,Sem.run_bind,Sem.run_pure,Result.andThen_ok,List.map_toArray,List.map_cons,List.map_nil,hx,hr]
 exact h
theorem a1c (w:World) {ops:Array Oper} {rest:List Oper} {o:Oper} {a:Act} {Q:Exit→Act→World→Prop} (hgd:o.guard=none) (x:Operand) (t:TypeId)
  (ho:o.op = .call { callee := .builtin .clear,args := #[x],argTypes := #[t] }) (u:Value) (hx:a.eval x=u) {v':Value} {w':World}
  (hr:(Builtin.clear_ #[t] o.type #[u]).run P w = .ok v' w') (h:wpList P ops Q rest (a.put o.dst v') w'):wpList P ops Q (o::rest) a w :=
 wpList_plain hgd fun _ hK=>b1u w x t ho u hx hr (hK _ _ h)
theorem a4z {T E ty b n cap m T0 capx:Nat} {a:Addr} {inf:TypeInfo} {cs:Array Value} {us:List Value} (hu:P.underlying T=some (.slice E)) (hi:P.info? E=some inf) (hh:w.heap[b]? = some (.cells cs T0 (0,0)))
  (hl:us.length=m * inf.size) (hsrc : ∀j v,us[j]? = some v→w.cell? (a.add j)=some v) (hroom:n+m≤cap) (hcs:cs.size=cap * inf.size) (h1 : ∀u∈us,one u) :
  (Builtin.append_ #[T,T] ty #[.slice (some ⟨b,0,none⟩) n cap,.slice (some a) m capx]).run P w = .ok (.slice (some ⟨b,0,none⟩) (n+m) cap) (wrote w b (n * inf.size) cs us):=by
 have hfit:n * inf.size+us.length≤cs.size:=by rw[hl,hcs,←Nat.add_mul];exact Nat.mul_le_mul_right _ hroom
 have hf:=run_firstCells_some (P:=P) w inf.size m a m capx us hl hsrc
 have hst:=N1 (P:=P) (o:=n * inf.size) hh hfit h1
 simp[Builtin.append_,run_underlying hu,sizeOf,typeInfo,hi,Builtin.lenOf,hroom,hf,Addr.add_lit,hst]
theorem a4y {T E ty b o c T0:Nat} {z:Value} {cs:Array Value} (hu:P.underlying T=some (.slice E)) (hv : ∀w,(zeroValue E).run P w = .ok z w) (hh:w.heap[b]? = some (.cells cs T0 (0,0))) (hfit:o+z.cells.size≤cs.size) (h1 : ∀u∈z.cells.toList,one u) :
  (Builtin.clear_ #[T] ty #[.slice (some ⟨b,o,none⟩) 1 c]).run P w = .ok (.tuple #[]) (wrote w b o cs z.cells.toList):=by
 have hzc:(Builtin.zeroCells z.cells 1).toList=z.cells.toList:=by
  apply List.ext_getElem
  ·simp[Builtin.zeroCells]
  ·intro i h1 h2
   simp[Builtin.zeroCells]
   have h3:i<z.cells.size:=by simpa using h2
   rw[Nat.mod_eq_of_lt h3]
   exact getElem!_pos z.cells i h3
 have hst:=N1 (P:=P) (o:=o) (us:=z.cells.toList) hh (by simpa using hfit) h1
 simp[Builtin.clear_,run_underlying hu,hv,hzc,hst]
def closed (cs:Array Value) (size n i:Nat) (zs:List Value):Array Value:=(putAt (putAt cs.toList (i * size) ((cs.toList.take (n * size)).drop ((i+1) * size))).toArray.toList ((n-1) * size) zs).toArray
theorem a8s {cs:Array Value} {size n i cap:Nat} {zs:List Value} (hs:cs.size=cap * size) (hc:n≤cap) (hi:i<n) (hz:zs.length=size) :
  ((cs.toList.take (n * size)).drop ((i+1) * size)).length=(n-(i+1)) * size∧i * size+((cs.toList.take (n * size)).drop ((i+1) * size)).length≤cs.size ∧
  (putAt cs.toList (i * size) ((cs.toList.take (n * size)).drop ((i+1) * size))).toArray.size=cs.size∧(n-1) * size+zs.length≤cs.size ∧
  (closed cs size n i zs).size=cs.size∧(∀o,o<i * size→(closed cs size n i zs)[o]? = cs[o]?)∧(∀o,i * size≤o→o<(n-1) * size→(closed cs size n i zs)[o]? = cs[size+o]?):=by
 have ht:=U9 (i:=i+1) hs hc
 have h1:n * size≤cap * size:=Nat.mul_le_mul_right _ hc
 have h2:i * size+(n-(i+1)) * size=(n-1) * size:=by rw[←Nat.add_mul];congr 1;omega
 have h3:(i+1) * size=i * size+size:=by rw[Nat.add_mul,Nat.one_mul]
 have h4:(n-1) * size+size=n * size:=by rw[show n * size=(n-1+1) * size by congr 1;omega,Nat.add_mul,Nat.one_mul]
 have hf1:i * size+((cs.toList.take (n * size)).drop ((i+1) * size)).length≤cs.toList.length:=by rw[ht,Array.length_toList,hs];omega
 have hl1:=o8 cs.toList (i * size) _ hf1
 have hf2:(n-1) * size+zs.length≤(putAt cs.toList (i * size) ((cs.toList.take (n * size)).drop ((i+1) * size))).length:=by rw[hz,hl1,Array.length_toList,hs];omega
 refine⟨ht,by simpa using hf1,by rw[List.size_toArray,hl1,Array.length_toList],by rw[hz,hs];omega,?_,fun o ho => ?_,fun o ho1 ho2 => ?_⟩
 ·rw[closed,List.size_toArray,List.toList_toArray,o8 _ _ _ hf2,hl1,Array.length_toList]
 ·have:i * size≤(n-1) * size:=Nat.mul_le_mul_right _ (by omega)
  rw[closed,C7,List.toList_toArray,A5 _ _ _ hf2 _ (by omega),A5 _ _ _ hf1 _ (by omega)]
  simp
 ·rw[closed,C7,List.toList_toArray,A5 _ _ _ hf2 _ (by omega)]
  have h5:=K9 _ _ _ hf1 (o-i * size) (by rw[ht];omega)
  rw[show i * size+(o-i * size)=o by omega]at h5
  rw[h5,List.getElem?_drop,List.getElem?_take,if_pos (by omega),show(i+1) * size+(o-i * size)=size+o by omega]
  simp
end
end Go.Sx
namespace Go.Sx
open Go.RowKit
def a3U (k:IntKind) (w:World) (a:Option Addr) (len cap:Nat) (zs:List Int):Prop :=
 (a=none∧len=0∧cap=0∧zs = []) ∨
 ∃x,a=some x∧len≤cap∧cap≤maxLen∧zs.length=cap∧(∀i,i<zs.length→w.cell? (x.add i)=some (.int k (zs.getD i 0))) ∧ ∀n∈zs,(Lit.int k n).wf=true
def S0 (w:World):Nat→Prop:=fun b=>b<w.heap.size
theorem c9p {x:Addr} (h:x.spot=none):x=⟨x.block,x.off,none⟩:=by cases x;cases h;rfl
theorem a3U.rep {w:World} {a:Option Addr} {len cap:Nat} {zs:List Int} (h:a3U .u8 w a len cap zs) (hlen:len≤140737488355328):Rep (S0 w) w (.slice a len cap) (.list .byte fun _=>zs.take len):=by
 rcases h with ⟨rfl,rfl,rfl,rfl⟩|⟨x,rfl,h1,h2,h3,h4,h5⟩
 ·exact .nil .byte _ rfl
 ·rcases Nat.eq_zero_or_pos len with h0|h0
  ·subst h0
   exact .emp .byte _ x cap (by simp)
  ·have hc0:=h4 0 (by omega)
   have hsp:x.spot=none ∧ ∃cs T fz,w.heap[x.block]? = some (.cells cs T fz):=by
    unfold World.cell? at hc0
    simp only[Addr.add,if_true]at hc0
    split at hc0
    ·rename_i cs T fz hh
     split at hc0
     ·cases hc0
     ·rename_i hs
      exact⟨by simpa using hs,cs,T,fz,hh⟩
    ·cases hc0
   obtain⟨hs,cs,T,fz,hh⟩:=hsp
   have hx:=c9p hs
   have hl:(zs.take len).length=len:=by rw[List.length_take];omega
   have hcell : ∀i,i<len→cs[x.off+i]? = some (.int .u8 (zs.getD i 0)):=fun i hi=>by
    have:=h4 i (by omega)
    rw[hx,v7,o9 hh]at this
    exact this
   have hnth : ∀i,i<len→nth .byte (zs.take len) i=zs.getD i 0:=fun i hi=>by
    simp[nth,List.getD,List.getElem?_take,hi,RT.dflt]
   have hr:=Rep.row (S:=S0 w) (w:=w) .byte (fun _=>zs.take len) x.block x.off cap cs T fz (fun i _ => .int .u8 (zs.getD i 0)) (fun i _ => .int .u8 fun _=>nth .byte (zs.take len) i)
    (Array.getElem?_eq_some_iff.1 hh).1 hh (by rw[hl];exact h1) (by rw[hl];exact I2.of (by simpa [RT.bytes]using hlen) rfl)
    (fun i j hi hj=>by
     rw[hl]at hi
     have hj0:j=0:=by
      have:RT.size .byte=1:=rfl
      omega
     subst hj0
     refine⟨rfl,?_⟩
     have:=hcell i hi
     simpa [RT.size]using this)
    (fun i j hi hj=>by
     rw[hl]at hi
     have hw:=h5 (zs.getD i 0) (by
      rw[List.getD_eq_getElem?_getD,List.getElem?_eq_getElem (by omega:i<zs.length)]
      exact List.getElem_mem _)
     have hn:=hnth i hi
     rw[←hn]at hw ⊢
     refine .int .u8 (fun _=>nth .byte (zs.take len) i) ?_ ?_
     ·simp[Lit.wf]at hw
      exact hw.1
     ·simp[Lit.wf]at hw
      exact hw.2)
   rw[hl,←hx]at hr
   exact hr
theorem d0L {B:Base} {K:V→St→Prop} {en:Ending} {w w':World} (hB:B.w0=w) (ho:B.om0=fun _=>none) (hK : ∀v σ,K v σ → v = .one (.att (.bool (.of fun _=>true)))) (h:a6O B K #[] en w'):en = .returned (.bool true)∧Below w.heap.size w w':=by
 obtain⟨v,x,e',σ',rfl,hk,hr,hv⟩:=h
 rw[hK _ _ hk]at hv
 simp only[VR,CR]at hv
 have hvv:=hv.1
 cases hvv with
 |bool b =>
  refine⟨rfl,?_⟩
  have hf:=hr.fr
  subst hB
  exact⟨hf.os,hf.tape,hf.output,hf.size,fun k hk=>(hf.old k hk (by rw[ho])).1⟩
theorem law1 {P:Program} {f:Nat} (h : ∀L kb,ClOk P fun _ f' args σ K=>f'=f∧(a2h (.sp ⟨false,true,[.list .byte],[],fun _ _ _ => .ret (.one (.att (.bool (.of fun _=>true))),fun _=>0)⟩) kb args).wp L σ.hp fun v hp=>K v ⟨σ.tm,hp,σ.up⟩)
  {w:World} {a0:Option Addr} {l0 c0:Nat} {z0:List Int} (w0:a3U .u8 w a0 l0 c0 z0) (h0:l0≤140737488355328) :
  Calls P f #[.slice a0 l0 c0] w fun e w'=>e = .returned (.bool true)∧Below w.heap.size w w':=by
 obtain⟨hr,hf⟩:=b6r (w:=w) (S:=S0 w) fun b hb=>hb
 have hrep0:=w0.rep h0
 refine((h ⟨[],[]⟩ 0 0 f [.one (.att (.list .byte fun _=>z0.take l0))] ⟨.leaf,.leaf,[]⟩ (fun v _=>v = .one (.att (.bool (.of fun _=>true)))) ⟨rfl,?_⟩).2
  ⟨w,S0 w,fun _=>none,fun _=>none,fun _ _=>False,[]⟩ ⟨S0 w,fun _=>none,fun _=>undef⟩ w #[] [.slice a0 l0 c0] ⟨hr,hf,trivial,fun t => ?_⟩ ?_).mono fun en w' hp=>d0L (B:=⟨w,S0 w,fun _=>none,fun _=>none,fun _ _=>False,[]⟩) rfl rfl (fun v σ hh=>hh) hp
 ·exact rfl
 ·simp only[VR,CR]
  exact⟨trivial,trivial⟩
 ·simp only[VRs,VR,CR]
  exact⟨⟨hrep0,y8.D5 rfl⟩,trivial⟩
end Go.Sx
