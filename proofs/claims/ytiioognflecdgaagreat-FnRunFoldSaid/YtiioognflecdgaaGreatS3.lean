/-
  append: sound.
-/
import Derived.Test.YtiioognflecdgaaGreatS2
import Derived.Great.FillDense
import Derived.Laws.MakeOwn
set_option linter.unusedVariables false
set_option linter.unusedSimpArgs false
namespace Go.Sx
section
variable {P:Program} {ctx:Ctx} {B:Base} {e:Env} {a:Act} {w w':World} {σ : St} {o:Oper} {K:V→Hp→Prop} {next:Act→World→Prop} {Q:Exit→Act→World→Prop} {L:Locks} {hp:Hp}
def a6D {α : Type} (n s:Nat) (f:Nat→Nat → α):List α := (List.range (n * s)).map fun o=>f (o / s) (o%s)
theorem a2N {α : Type} (n s:Nat) (f:Nat→Nat → α):(a6D n s f).length=n * s:=by simp[a6D]
theorem Y3 {n s i j:Nat} (hi:i<n) (hj:j<s):i * s+j<n * s:=by
 have:(i+1) * s≤n * s:=Nat.mul_le_mul_right _ hi
 rw[Nat.add_mul]at this
 omega
theorem b2Y {α : Type} {n s i j:Nat} (f:Nat→Nat → α) (hi:i<n) (hj:j<s):(a6D n s f)[i * s+j]? = some (f i j):=by
 have h1:(i * s+j) / s=i:=by rw[Nat.mul_comm,Nat.mul_add_div (by omega),Nat.div_eq_of_lt hj];omega
 have h2:(i * s+j)%s=j:=by rw[Nat.mul_comm,Nat.mul_add_mod,Nat.mod_eq_of_lt hj]
 simp[a6D,List.getElem?_map,List.getElem?_range (Y3 hi hj),h1,h2]
theorem a7H {α : Type} {n s o:Nat} {f:Nat→Nat → α} {x : α} (h:(a6D n s f)[o]? = some x):o / s<n∧o%s<s∧x=f (o / s) (o%s)∧o=o / s * s+o%s:=by
 have hlt:=(List.getElem?_eq_some_iff.1 h).1
 rw[a2N]at hlt
 have hs:0<s:=by
  rcases Nat.eq_zero_or_pos s with h0|h0
  ·subst h0;omega
  ·exact h0
 simp only[a6D,List.getElem?_map,List.getElem?_range hlt,Option.map_some,Option.some.injEq]at h
 refine⟨Nat.div_lt_of_lt_mul (by rw[Nat.mul_comm];exact hlt),Nat.mod_lt _ hs,h.symm,?_⟩
 have:=Nat.div_add_mod o s
 rw[Nat.mul_comm]at this
 omega
theorem c4Y {α : Type} {n s:Nat} {f:Nat→Nat → α} {x : α} (h:x∈a6D n s f) : ∃i j,i<n∧j<s∧x=f i j:=by
 obtain⟨o,ho⟩:=List.getElem?_of_mem h
 obtain⟨h1,h2,h3,_⟩:=a7H ho
 exact⟨_,_,h1,h2,h3⟩
def A.atom:A→Bool
 | .list _ _=>false
 |_=>true
theorem c4X {t:RT} (h:t.flat=true) (x:Th t.ty):(enc t x).all A.atom=true:=by
 cases t<;>first|rfl|(exact absurd h (by decide))
theorem c5k {t:RT} (h:t.flat=true) {l:List t.ty} {i j:Nat} {a:A} (ha:celA t l i j=some a):a.atom=true :=
 List.all_eq_true.1 (c4X h _) a (List.mem_of_getElem? ha)
theorem Rep.atom {S:Nat→Prop} {u:Value} {a:A} (h:Rep S w u a) (ha:a.atom=true) : ∀om k (p:Path) w',OwnA om k w' p u a:=by
 intro om k p w'
 cases h with
 |int kd n h1 h2=>exact .int p kd n h1 h2
 |bool b=>exact .bool p b
 |nil=>cases ha
 |emp=>cases ha
 |row=>cases ha
theorem OwnA.atom {om:Nat→Option (Nat×Path)} {k:Nat} {p:Path} {u:Value} {a:A} (h:OwnA om k w p u a) (ha:a.atom=true) : ∀om k (p:Path) w',OwnA om k w' p u a:=by
 intro om k p w'
 cases h with
 |int _ kd n h1 h2=>exact .int p kd n h1 h2
 |bool _ b=>exact .bool p b
 |nil=>cases ha
 |row=>cases ha
structure Src (e:Env) (hp:Hp) (w:World) (t:RT) (x:Value) (l:Th (List t.ty)) (dp:Bool) (us:List Value) (ok:Option Nat):Prop where
 news:News w t.size x (l ()).length us
 one : ∀u∈us,Sx.one u
 ro:dp=false → ∀i j,i<(l ()).length→j<t.size → ∃u,us[i * t.size+j]? = some u∧Rep e.S w u (asOf t (l ()) i j)
 own:dp=true → ∀i j,i<(l ()).length→j<t.size → ∃u,us[i * t.size+j]? = some u∧match ok with
  |none => ∀om k p w',OwnA om k w' p u (asOf t (l ()) i j)
  |some k2=>OwnA e.om k2 w [(i,j)] u (asOf t (l ()) i j)
 dead : ∀k,ok=some k→(hp.get k).2 = .dead
theorem S9 {t:RT} {l:List t.ty} {i j:Nat} {a:A} (h:celA t l i j=some a):asOf t l i j=a:=by
 have hj:j<t.size:=by
  have:=(List.getElem?_eq_some_iff.1 h).1
  rwa [D8]at this
 rw[E7 hj]at h
 exact Option.some.inj h
inductive Lst.View (e:Env) (hp:Hp) (w:World) (v:Value) (t:RT) (l:Th (List t.ty)) (R:Value→Nat→Nat→A→Prop):Prop
 |nil:v = .slice none 0 0→l () = []→View e hp w v t l R
 |emp (a:Addr) (cap:Nat):v = .slice (some a) 0 cap→l () = []→View e hp w v t l R
 |row (b off cap:Nat) (cs:Array Value) (T:Nat) (fz:Nat×Nat) (vs:Nat→Nat→Value):HdrM w t (l ()).length v b off cap cs T fz vs →
   (∀i j,i<(l ()).length→j<t.size→R (vs i j) i j (asOf t (l ()) i j))→View e hp w v t l R
theorem Rep.view {v:Value} {t:RT} {l:Th (List t.ty)} (h:Rep e.S w v (.list t l)):Lst.View e hp w v t l (fun u _ _ a=>Rep e.S w u a):=by
 rcases h.list with ⟨h1,h2⟩|⟨b,off,cap,cs,T,fz,vs,as,h1,_,h3,h4,h5,h6,h7⟩|⟨h2,a,cap,h1⟩
 ·exact .nil h1 h2
 rotate_left
 ·exact .emp a cap h1 h2
 ·exact .row b off cap cs T fz vs ⟨h1,h3,h4,h5,fun i j hi hj=>(h6 i j hi hj).2,fun i j hi hj=>(h7 i j hi hj).one⟩ fun i j hi hj=>by rw[S9 (h6 i j hi hj).1];exact h7 i j hi hj
theorem OwnA.view {k:Nat} {p:Path} {v:Value} {t:RT} {l:Th (List t.ty)} (h:OwnA e.om k w p v (.list t l)):Lst.View e hp w v t l (fun u i j a=>OwnA e.om k w (p ++ [(i,j)]) u a):=by
 rcases h.list with ⟨h1,h2⟩|⟨b,cap,cs,T,vs,as,R,_,h3⟩
 ·exact .nil h1 h2
 ·exact .row b 0 cap cs T (0,0) vs ⟨R.hv,R.hh,R.hc,R.hl,fun i j hi hj=>by simpa using(R.hg i j hi hj).2,fun i j hi hj=>(h3 i j hi hj).one⟩ fun i j hi hj=>by rw[S9 (R.hg i j hi hj).1];exact h3 i j hi hj
theorem b6p {k g:Nat} {t:RT} {l:Th (List t.ty)} (h:ChR e hp w k (.row false g t l)):Lst.View e hp w (e.E k) t l (fun u _ _ a=>Rep e.S w u a):=by
 rcases h with ⟨h1,h2⟩|⟨b,cap,cs,T,vs,as,R,_,h3⟩
 ·exact .nil h1 h2
 ·exact .row b 0 cap cs T (0,0) vs ⟨R.hv,R.hh,R.hc,R.hl,fun i j hi hj=>by simpa using(R.hg i j hi hj).2,fun i j hi hj=>(h3 i j hi hj).one⟩ fun i j hi hj=>by rw[S9 (R.hg i j hi hj).1];exact h3 i j hi hj
theorem View.src {v:Value} {t:RT} {l:Th (List t.ty)} {R:Value→Nat→Nat→A→Prop} (h:Lst.View e hp w v t l R) :
  ∃us,News w t.size v (l ()).length us∧(∀u∈us,Sx.one u) ∧ ∀i j,i<(l ()).length→j<t.size → ∃u,us[i * t.size+j]? = some u∧R u i j (asOf t (l ()) i j):=by
 cases h with
 |nil h1 h2=>exact⟨[],⟨by simp[h2],.inl ⟨h1,by simp[h2]⟩⟩,fun u hu=>(by cases hu),fun i j hi=>by simp[h2]at hi⟩
 |emp a cap h1 h2=>exact⟨[],⟨by simp[h2],.inr (.inl ⟨by simp[h2],a,cap,h1⟩)⟩,fun u hu=>(by cases hu),fun i j hi=>by simp[h2]at hi⟩
 |row b off cap cs T fz vs H hR =>
  refine⟨a6D (l ()).length t.size vs,⟨a2N _ _ _,.inr (.inr ⟨b,off,cap,H.hv,fun o u hu => ?_⟩)⟩,fun u hu => ?_,fun i j hi hj=>⟨vs i j,b2Y vs hi hj,hR i j hi hj⟩⟩
  ·obtain⟨h1,h2,h3,h4⟩:=a7H hu
   rw[o9 H.hh,h3,←H.hg _ _ h1 h2]
   congr 1
   omega
  ·obtain⟨i,j,hi,hj,rfl⟩:=c4Y hu
   exact H.h1 i j hi hj
theorem b8A (h:HR e hp w) {t:RT} {x:C} {v:Value} (hc:CR e hp w v x) {K:Bool×Th (List t.ty)→Hp→Prop} (hm:(srcM t x).wp L hp K) :
  ∃hp' dp l us ok,Stps e hp w e hp' w∧K (dp,l) hp'∧Src e hp' w t v l dp us ok:=by
 have flat:t.flat=true → ∀(l:Th (List t.ty)) R,Lst.View e hp w v t l R→(∀u i j a,R u i j a→a.atom=true → ∀om k (p:Path) w',OwnA om k w' p u a) → ∃us,Src e hp w t v l true us none:=by
  intro hf l R hV hR
  obtain⟨us,h1,h2,h4⟩:=View.src hV
  refine⟨us,h1,h2,fun hd=>by(cases hd),fun _ i j hi hj => ?_,fun k hk=>by cases hk⟩
  obtain⟨u,g1,g2⟩:=h4 i j hi hj
  exact⟨u,g1,hR _ _ _ _ g2 (c5k hf (E7 hj))⟩
 have roV : ∀(l:Th (List t.ty)),Lst.View e hp w v t l (fun u _ _ a=>Rep e.S w u a) → ∃us,Src e hp w t v l false us none:=by
  intro l hV
  obtain⟨us,h1,h2,h4⟩:=View.src hV
  exact⟨us,h1,h2,fun _ i j hi hj=>h4 i j hi hj,fun hd=>by(cases hd),fun k hk=>by cases hk⟩
 unfold srcM at hm
 split at hm
 ·simp only[CR]at hc
  exact⟨hp,true,fun _ => [],[],none,.refl _ _ _,hm,⟨⟨by simp,.inl ⟨hc,rfl⟩⟩,fun u hu=>by(cases hu),fun hd=>by(cases hd),fun _ i j hi=>by simp at hi,fun k hk=>by cases hk⟩⟩
 ·split at hm
  ·exact hm.elim
  rw[M.wp_bind]at hm
  obtain⟨t',l,hl,hm⟩:=U6 h hc hm
  simp only at hm
  split at hm
  ·rename_i ht
   subst ht
   simp only[Q9]at hm
   split at hm
   ·rename_i hf
    have : ∃us,Src e hp w t' v l true us none:=by
     cases hl with
     |att hr=>exact flat hf l _ hr.view fun u i j a h1 h2=>h1.atom h2
     |row k ver g dp hx hv hch =>
      rw[hv]at flat ⊢
      cases dp with
      |true=>exact flat hf l _ (OwnA.view hch) fun u i j a h1 h2=>h1.atom h2
      |false=>exact flat hf l _ (b6p hch) fun u i j a h1 h2=>h1.atom h2
     |ro k ver hx hv hr=>exact flat hf l _ hr.view fun u i j a h1 h2=>h1.atom h2
     |pref k ver g pre i j t0 l0 hx hs hmh hown=>exact flat hf l _ (a1k _ _ _ _ _ _ _ _ hown hs hmh).view fun u i j a h1 h2=>h1.atom h2
    obtain⟨us,hs⟩:=this
    exact⟨hp,true,l,us,none,.refl _ _ _,hm,hs⟩
   ·cases hl with
    |att hr =>
     obtain⟨us,hs⟩:=roV l hr.view
     exact⟨hp,false,l,us,none,.refl _ _ _,hm,hs⟩
    |row k ver g dp hx hv hch =>
     simp only at hm
     replace hm:=M.u4 hm
     rw[hx]at hm
     cases dp with
     |true =>
      simp only at hm
      replace hm:=M.D3 hm
      obtain⟨hk,hm⟩:=hm
      have hst:=Q0 h k (ver+1) (by rw[hx];exact Nat.lt_succ_self _) hk
      obtain⟨us,h1,h2,h4⟩:=View.src (hp:=hp) (OwnA.view hch)
      rw[←hv]at h1
      refine⟨_,true,l,us,some k,.one hst,hm,⟨h1,h2,fun hd=>by(cases hd),fun _ i j hi hj=>by simpa using h4 i j hi hj,fun k' hk' => ?_⟩⟩
      cases hk'
      rw[Tr.e8]
     |false =>
      simp only at hm
      rw[hv]at roV ⊢
      obtain⟨us,hs⟩:=roV l (b6p hch)
      exact⟨hp,false,l,us,none,.refl _ _ _,hm,hs⟩
    |ro k ver hx hv hr =>
     simp only at hm
     replace hm:=M.u4 hm
     rw[hx]at hm
     obtain⟨us,hs⟩:=roV l hr.view
     exact⟨hp,false,l,us,none,.refl _ _ _,hm,hs⟩
    |pref=>exact hm.elim
  ·exact hm.elim
theorem b7h {om:Nat→Option (Nat×Path)} {k:Nat} {i:Th Int} {j:Nat} : ∀(pre:List (Th Int×Nat)) (t:RT) (l:Th (List t.ty)) (v hdr:Value),C2 om k w t l v (pre ++ [(i,j)]) hdr→0≤i ()
 |[],_,_,_,_,⟨_,_,_,_,_,h,_⟩=>h
 |_::r,_,_,_,_,⟨_,_,_,_,_,_,_,u,t2,l2,_,_,h⟩=>b7h r t2 l2 u _ h
theorem a7R (h:HR e hp w) {key:Nat} {s:C} {v:Value} (hc:CR e hp w v s) {K:C→Hp→Prop} (hm:(c0F key s).wp L hp K) : ∃e' hp' s',Stps e hp w e' hp' w∧CR e' hp' w v s'∧K s' hp':=by
 unfold c0F at hm
 split at hm
 ·rename_i k ver g pre i j
  replace hm:=M.u4 hm
  simp only[CR]at hc
  split at hm
  ·rename_i v' g' t0 l0 hx
   split at hm
   ·rename_i hh
    obtain⟨rfl,rfl⟩:=hh
    rw[hx]at hc
    split at hm
    ·rename_i t l hs
     split at hm
     ·exact hm.elim
     ·rename_i hkk
      replace hm:=M.D3 hm
      obtain⟨_,hm⟩:=hm
      replace hm:=M.u4 hm
      rw[Tr.j7 _ _ (Ne.symm hkk)]at hm
      replace hm:=M.D3 hm
      obtain⟨hk,hm⟩:=hm
      rw[Tr.j7 _ _ (Ne.symm hkk)]at hk
      have hmh:=(hc.2 rfl).2 _ _ rfl
      have hst:=step_take h hkk hx hs hmh (b7h _ _ _ _ _ hmh) (Nat.lt_succ_self _) hk
      refine⟨_,_,_,.one hst,?_,hm⟩
      simp only[CR]
      rw[Tr.e8]
      exact⟨Nat.le_refl _,fun _=>by simp[Env.take]⟩
    ·exact hm.elim
   ·exact hm.elim
  ·exact hm.elim
 ·exact⟨e,hp,s,.refl _ _ _,hc,hm⟩
inductive OldS (e:Env) (hp:Hp) (w:World) (t:RT) (s:Value) (l:Th (List t.ty)) (dp:Bool) (ks:Option Nat):Prop
 |nil:s = .slice none 0 0→l () = []→OldS e hp w t s l dp ks
 |row (k b cap:Nat) (cs:Array Value) (T:Nat) (vs:Nat→Nat→Value) (as:Nat→Nat→A):ks=some k→RowM w t (l ()) s b cap cs T vs as→e.om b=some (k,[]) →
   (dp=true → ∀i j,i<(l ()).length→j<t.size→OwnA e.om k w [(i,j)] (vs i j) (as i j))→(dp=false → ∀i j,i<(l ()).length→j<t.size→Rep e.S w (vs i j) (as i j))→OldS e hp w t s l dp ks
theorem b1j {t:RT} {l m:List t.ty} {i j:Nat} (h:i<l.length):celA t (l++m) i j=celA t l i j:=by
 unfold celA
 rw[l7 t (l++m) i (by rw[List.length_append];omega),l7 t l i h,List.getElem_append_left h]
theorem b1k {t:RT} {l m:List t.ty} {i j:Nat} (h:i<m.length):celA t (l++m) (l.length+i) j=celA t m i j:=by
 unfold celA
 rw[l7 t (l++m) (l.length+i) (by rw[List.length_append];omega),l7 t m i h,List.getElem_append_right (by omega)]
 simp
theorem a0E {key:Nat} {dp:Bool} {t:RT} {l:Th (List t.ty)} {K:V→Hp→Prop} (hm:(newRow key dp t l).wp L hp K) :
  keeps (hp.get key) ((hp.get key).1+1,.row dp 0 t l)=true∧K (.one (.own key ((hp.get key).1+1))) (hp.set key ((hp.get key).1+1,.row dp 0 t l)):=by
 unfold newRow at hm
 replace hm:=M.u4 hm
 exact M.D3 hm
theorem a7K {e':Env} {key ver:Nat} {x:Ch} {v:Value} (h1:one v) (hv:e'.E key=v):VR e' (hp.set key (ver,x)) w' v (.one (.own key ver)):=by
 simp only[VR,CR]
 rw[Tr.e8]
 exact⟨⟨Nat.le_refl _,fun _=>hv.symm⟩,y8.D5 h1⟩
theorem Old.c1o {size n b cap n1 b1 cap1 T0:Nat} {cs:Array Value} {s:Value} (h:Old w size s n b cap cs T0) (hs:s = .slice (some ⟨b1,0,none⟩) n1 cap1):b1=b∧w.heap[b]? = some (.cells cs T0 (0,0)):=by
 cases h with
 |nil _ _ _ _ _ _=>cases hs
 |row _ _ _ _ _ hh _ _ _=>cases hs;exact⟨rfl,hh⟩
theorem c9j (h:HR e hp w) {key T E ty:Nat} {t:RT} {inf:TypeInfo} {z s x:Value} {l l2:Th (List t.ty)} {dp:Bool} {us:List Value} {ok ks:Option Nat} (hu:P.underlying T=some (.slice E)) (hi:P.info? E=some inf) (hz:inf.zero=some z)
  (hsize:inf.size=t.size) (hby:inf.bytes=t.bytes) (hzs:z.cells.size=t.size) (hO:OldS e hp w t s l dp ks) (hS:Src e hp w t x l2 dp us ok) (hkd : ∀k,ks=some k→(hp.get k).2 = .dead) (hne : ∀k,ks=some k→ok≠some k) (hL:I2 t ((l ()).length+(l2 ()).length)) (hlg:t.O8=false)
  (hk:keeps (hp.get key) ((hp.get key).1+1,.row dp 0 t (fun _=>l ()++l2 ()))=true) :
  ∃v w' e',(Builtin.append_ #[T,T] ty #[s,x]).run P w = .ok v w'∧Stp e hp w e' (hp.set key ((hp.get key).1+1,.row dp 0 t (fun _=>l ()++l2 ()))) w'∧e'.E key=v∧one v:=by
 have hlen:(l ()).length+(l2 ()).length≤140737488355328:=I2.leN hL.1 hlg
 have hO' : ∃b cap cs T0,Old w t.size s (l ()).length b cap cs T0:=by
  cases hO with
  |nil h1 h2=>exact⟨0,0,#[],0,by rw[h1,h2];exact .nil _ _ _ _ rfl rfl⟩
  |row k b cap cs T vs as _ R _ _ _=>exact⟨b,cap,cs,T,by rw[R.hv];exact .row _ b cap cs T R.hh R.hc R.hm R.hs⟩
 obtain⟨b,cap,cs,T0,hO1⟩:=hO'
 rcases H8 (P:=P) (ty:=ty) hu hi hz hsize hby hzs hO1 hS.news hS.one hlen hL.1 with ⟨hr,hs,hn,hm⟩|⟨v,w',b',cap',cs',T',hr,A⟩
 ·
  refine⟨_,_,e.mv key none (.slice none 0 0) fun _ _=>none,hr,?_,by simp[Env.mv],rfl⟩
  have hl0:l ()++l2 () = []:=by
   rw[List.eq_nil_of_length_eq_zero hn,List.eq_nil_of_length_eq_zero hm];rfl
  refine Y7 h key _ _ none _ (Nat.lt_succ_self _) hk (fun k q p hg=>by cases hg) rfl rfl rfl (Nat.le_refl _) (fun b hb=>by cases hb) (fun b _ => .inl rfl) fun _ => ?_
  cases dp with
  |true =>
   show OwnA _ _ _ _ (if key=key then _ else _) _
   rw[if_pos rfl]
   exact .nil _ _ _ hl0
  |false=>exact .inl ⟨by simp[Env.mv],hl0⟩
 ·
  have fin : ∀(ob:Option Nat) (g:Nat→Path→Option Path),(∀k q p,g k q=some p→(hp.get k).2 = .dead)→(∀x,ob=some x→w.heap.size≤x∧x<w'.heap.size) →
    (∀x,x<w.heap.size→w'.heap[x]? = w.heap[x]? ∨ ∃k q,e.om x=some (k,q)∧(hp.get k).2 = .dead)→(e.mv key ob v g).om b'=some (key,[]) →
    (∀k,ks=some k→dp=true → ∀i j q,g k ((i,j)::q)=some ((i,j)::q))→(∀k,ok=some k → ∀i j q,g k ((i,j)::q)=some (((l ()).length+i,j)::q)) →
    (∀x k y q,e.om x=some (k,y::q)→w'.heap[x]? = w.heap[x]?) →
    ∃v w' e',(Builtin.append_ #[T,T] ty #[s,x]).run P w = .ok v w'∧Stp e hp w e' (hp.set key ((hp.get key).1+1,.row dp 0 t (fun _=>l ()++l2 ()))) w'∧e'.E key=v∧one v:=by
   intro ob g hg hob hold hb' hg0 hg2 hheap
   refine⟨v,w',e.mv key ob v g,hr,?_,by simp[Env.mv],by rw[A.hv];rfl⟩
   refine Y7 h key v _ ob g (Nat.lt_succ_self _) hk hg A.os A.tape A.output A.size' hob hold fun hsr => ?_
   have hnob : ∀x y,e.om x=some y→ob≠some x:=fun x y h1 h2=>by have:=h.oOk x y h1;have:=(hob x h2).1;omega
   let vs':Nat→Nat→Value:=fun i j=>(cs'[i * t.size+j]?).getD .nilFunc
   have hll:(l ()++l2 ()).length=(l ()).length+(l2 ()).length:=List.length_append
   have hv' : ∀i j,i<(l ()++l2 ()).length→j<t.size→cs'[i * t.size+j]? = some (vs' i j):=fun i j hi hj=>by
    rw[hll]at hi
    have h1:=Y3 hi hj
    have h2:((l ()).length+(l2 ()).length) * t.size≤cap' * t.size:=Nat.mul_le_mul_right _ A.hc
    have h3:i * t.size+j<cs'.size:=by rw[A.hs];omega
    simp only[vs',Array.getElem?_eq_getElem h3,Option.getD_some]
   have hRow:RowM w' t (l ()++l2 ()) v b' cap' cs' T' vs' (asOf t (l ()++l2 ())) :=
    ⟨by rw[hll];exact A.hv,A.hh,by rw[hll];exact A.hc,A.hm,A.hs,by rw[hll];exact hL,fun i j hi hj=>⟨E7 hj,hv' i j hi hj⟩⟩
   have hnew : ∀i j u,i<(l2 ()).length→j<t.size→us[i * t.size+j]? = some u→vs' ((l ()).length+i) j=u∧asOf t (l ()++l2 ()) ((l ()).length+i) j=asOf t (l2 ()) i j:=fun i j u hi hj hu'=>by
    have h1:=A.new (i * t.size+j) (Y3 hi hj)
    rw[hu']at h1
    refine⟨?_,S9 (by rw[b1k hi];exact E7 hj)⟩
    simp only[vs']
    rw[show((l ()).length+i) * t.size+j=(l ()).length * t.size+(i * t.size+j) by rw[Nat.add_mul];omega,h1]
    rfl
   have hold' : ∀i j,i<(l ()).length→j<t.size→cs'[i * t.size+j]? = cs[i * t.size+j]? := fun i j hi hj=>A.old _ (Y3 hi hj)
   have hals : ∀i j,i<(l ()).length→j<t.size→asOf t (l ()++l2 ()) i j=asOf t (l ()) i j:=fun i j hi hj=>S9 (by rw[b1j hi];exact E7 hj)
   cases dp with
   |true =>
    show OwnA (e.mv key ob v g).om key w' [] ((e.mv key ob v g).E key) (.list t fun _=>l ()++l2 ())
    rw[show(e.mv key ob v g).E key=v by simp[Env.mv]]
    refine hRow.own hb' fun i j hi hj => ?_
    by_cases hlt:i<(l ()).length
    ·rw[hals i j hlt hj]
     cases hO with
     |nil h1 h2=>rw[h2]at hlt;simp at hlt
     |row k b1 cap1 cs1 T1 vs as hks R hbo hown hrep =>
      have hb1:b1=b∧cs1=cs:=by
       obtain⟨rfl,hh⟩:=hO1.c1o R.hv
       have h2:=R.hh
       rw[hh]at h2
       cases h2
       exact⟨rfl,rfl⟩
      obtain⟨rfl,rfl⟩:=hb1
      obtain⟨r1,r2⟩:=R.hg i j hlt hj
      have h3:=hv' i j (by rw[hll];omega) hj
      rw[hold' i j hlt hj,r2]at h3
      rw[←Option.some.inj h3,S9 r1]
      refine(hown rfl i j hlt hj).mono _ fun b'' r hb''=>⟨Env.a4E (hnob _ _ hb'') hb'' (hg0 k hks rfl i j r),hheap b'' k (i,j) r hb''⟩
    ·obtain⟨i',rfl⟩ : ∃i',i=(l ()).length+i':=⟨i-(l ()).length,by omega⟩
     have hi':i'<(l2 ()).length:=by rw[hll]at hi;omega
     obtain⟨u,g1,g2⟩:=hS.own rfl i' j hi' hj
     obtain⟨e1,e2⟩:=hnew i' j u hi' hj g1
     rw[e1,e2]
     cases hok:ok with
     |none=>rw[hok]at g2;exact g2 _ _ _ _
     |some k2 =>
      rw[hok]at g2
      exact g2.mono _ fun b'' r hb''=>⟨Env.a4E (hnob _ _ hb'') hb'' (hg2 k2 hok i' j r),hheap b'' k2 (i',j) r hb''⟩
   |false =>
    refine .inr ⟨b',cap',cs',T',vs',asOf t (l ()++l2 ()),?_,hb',fun i j hi hj => ?_⟩
    ·rw[show(e.mv key ob v g).E key=v by simp[Env.mv]]
     exact hRow
    ·by_cases hlt:i<(l ()).length
     ·rw[hals i j hlt hj]
      cases hO with
      |nil h1 h2=>rw[h2]at hlt;simp at hlt
      |row k b1 cap1 cs1 T1 vs as hks R hbo hown hrep =>
       have hb1:b1=b∧cs1=cs:=by
        obtain⟨rfl,hh⟩:=hO1.c1o R.hv
        have h2:=R.hh
        rw[hh]at h2
        cases h2
        exact⟨rfl,rfl⟩
       obtain⟨rfl,rfl⟩:=hb1
       obtain⟨r1,r2⟩:=R.hg i j hlt hj
       have h3:=hv' i j (by rw[hll];omega) hj
       rw[hold' i j hlt hj,r2]at h3
       rw[←Option.some.inj h3,S9 r1]
       exact(hrep rfl i j hlt hj).mono hsr.S
     ·obtain⟨i',rfl⟩ : ∃i',i=(l ()).length+i':=⟨i-(l ()).length,by omega⟩
      have hi':i'<(l2 ()).length:=by rw[hll]at hi;omega
      obtain⟨u,g1,g2⟩:=hS.ro rfl i' j hi' hj
      obtain⟨e1,e2⟩:=hnew i' j u hi' hj g1
      rw[e1,e2]
      exact g2.mono hsr.S
  let g:Bool→Nat→Path→Option Path:=fun inplace k q=>if ks=some k then(match q with
    |[]=>if inplace then some []else none
    |x::r=>if dp then some (x::r)else none)
   else if ok=some k then(match q with
    |[]=>none
    |x::r=>some (((l ()).length+x.1,x.2)::r))
   else none
  have hgd : ∀ip k q p,g ip k q=some p→(hp.get k).2 = .dead:=fun ip k q p hg=>by
   simp only[g]at hg
   split at hg
   ·rename_i hk';exact hkd k hk'
   ·split at hg
    ·rename_i hk';exact hS.dead k hk'
    ·cases hg
  have hg0 : ∀ip k,ks=some k→dp=true → ∀i j q,g ip k ((i,j)::q)=some ((i,j)::q):=fun ip k hk' hdp i j q=>by simp[g,hk',hdp]
  have hg2 : ∀ip k,ok=some k → ∀i j q,g ip k ((i,j)::q)=some (((l ()).length+i,j)::q):=fun ip k hk' i j q=>by
   have:ks≠some k:=fun hh=>hne k hh hk'
   simp[g,hk',this]
  rcases A.at_ with ⟨rfl,⟨n',hs⟩,hoth⟩|⟨rfl,hlt,hall⟩
  ·
   cases hO with
   |nil h1 h2=>rw[h1]at hs;cases hs
   |row k b1 cap1 cs1 T1 vs as hks R hbo hown hrep =>
    have hb1:b1=b':=by
     have:=R.hv
     rw[hs]at this
     simp only[Value.slice.injEq,Option.some.injEq,Addr.mk.injEq]at this
     exact this.1.1.symm
    subst hb1
    refine fin none (g true) (hgd true) (fun x hx=>by cases hx) (fun x hx => ?_) (Env.a4E (by simp) hbo (by simp[g,hks])) (hg0 true) (hg2 true) fun x k' y q hx=>hoth x fun hh => ?_
    ·by_cases hxb:x=b1
     ·subst hxb;exact .inr ⟨k,[],hbo,hkd k hks⟩
     ·exact .inl (hoth x hxb)
    ·rw[hh,hbo]at hx
     cases hx
  ·exact fin (some w.heap.size) (g false) (hgd false) (fun x hx=>by cases hx;exact⟨Nat.le_refl _,hlt⟩) (fun x hx => .inl (hall x hx)) Env.b4C (hg0 false) (hg2 false) fun x k' y q hx=>hall x (h.oOk x _ hx)
theorem c3z (h:Rel B e w a.tmps σ) (hd : ∀d,o.dst=some d→d<a.tmps.size) (hn:Nx B a σ o K next) (hty:TyOk P ctx.ty) {cl:Call} (ho:o.op = .call cl) (hb:cl.callee = .builtin .append) {T:Nat} {s x:V}
  (hargs:cl.args.toList.map (ev σ.tm) = [s,x]) (hT:cl.argTypes.toList = [T,T]) {key:Nat} (hm:(b5h ctx key T s x).wp L σ.hp K):o.wp P a w next Q:=by
 obtain⟨ys,yx,hy,hys,hyx⟩ : ∃y y',cl.args.toList = [y,y']∧ev σ.tm y=s∧ev σ.tm y'=x:=by
  cases hl:cl.args.toList with
  |nil=>rw[hl]at hargs;simp at hargs
  |cons y r=>cases r with
   |nil=>rw[hl]at hargs;simp at hargs
   |cons y' r=>cases r with
    |nil=>rw[hl]at hargs;simp at hargs;exact⟨y,y',rfl,hargs.1,hargs.2⟩
    |cons _ _=>rw[hl]at hargs;simp at hargs
 have hs:=p6 h ys
 have hx:=p6 h yx
 rw[hys]at hs
 rw[hyx]at hx
 unfold b5h at hm
 split at hm
 ·rename_i E hE
  split at hm
  ·exact hm.elim
  ·rename_i t ht
   obtain⟨E',inf,z,hu,hi,hsz,hby,hz,_,hzs,hE',_,_,hbt,hlg⟩:=a4t hty (T:=T) (t:=t) (by simp[a2O,isRt,hE,ht])
   rw[hE]at hE'
   cases hE'
   split at hm
   ·rename_i s x
    simp only[VR]at hs hx
    rw[M.wp_bind]at hm
    obtain⟨e1,hp1,s',hst1,hcs,hm⟩:=a7R h.hr hs.1 hm
    have hr1:=hst1.hr h.hr
    rw[M.wp_bind]at hm
    obtain⟨hp2,dp,l2,us,ok,hst2,hm,hS⟩:=b8A hr1 (hst1.CR hx.1) hm
    have hr2:=hst2.hr hr1
    have hcs2:=hst2.CR hcs
    simp only at hm
    rw[hbt]at hm
    have fin : ∀(key:Nat) (e3:Env) (hp3:Hp) (l:Th (List t.ty)) (ks:Option Nat),Stps e1 hp2 w e3 hp3 w→HR e3 hp3 w→OldS e3 hp3 w t (a.eval ys) l dp ks→Src e3 hp3 w t (a.eval yx) l2 dp us ok→(∀k,ks=some k→(hp3.get k).2 = .dead)→(∀k,ks=some k→ok≠some k) →
      I2 t ((l ()).length+(l2 ()).length)→(newRow key dp t (fun _=>l ()++l2 ())).wp L hp3 K→o.wp P a w next Q:=by
     intro key e3 hp3 l ks hst3 hr3 hO hS3 hkd hne hL hnr
     obtain⟨hk,hK⟩:=a0E hnr
     obtain⟨v,w',e',hr,hst4,hE4,h1⟩:=c9j (P:=P) (ty:=o.type) hr3 hu hi hz hsz hby hzs hO hS3 hkd hne hL hlg hk
     refine a5p h hd hn (v:=v) ?_ ((hst1.trans hst2).trans (hst3.trans (.one hst4))) (a7K h1 hE4) hK
     have ha:cl.args.map a.eval = #[a.eval ys,a.eval yx]:=by apply Array.ext';simp[hy]
     have ht':cl.argTypes = #[T,T]:=by apply Array.ext';simp[hT]
     simp[execOp,ho,resolve,hb,ha,ht',invoke,builtin,hr]
    unfold dstM at hm
    split at hm
    ·
     simp only[CR]at hcs2
     obtain⟨hob,hm⟩:=hm
     have hL:(l2 ()).length * t.bytes≤140737488355328:=hob.out
     refine fin _ e1 hp2 (fun _ => []) none (.refl _ _ _) hr2 (.nil hcs2 rfl) hS (fun k hk=>by cases hk) (fun k hk=>by cases hk) (I2.of (by simpa using hL) hlg) (by simpa using hm)
    ·rename_i k ver _
     replace hm:=M.u4 hm
     simp only[CR]at hcs2
     split at hm
     ·rename_i v' dp' g t' l hx2
      split at hm
      ·rename_i hh
       obtain⟨rfl,rfl⟩:=hh
       split at hm
       ·rename_i htt
        subst htt
        simp only[Q9]at hm
        obtain⟨hob,hm⟩:=hm
        have hL:((l ()).length+(l2 ()).length) * t'.bytes≤140737488355328:=hob.out
        replace hm:=M.D3 hm
        obtain⟨hk,hm⟩:=hm
        have hst:=Q0 hr2 k (ver+1) (by rw[hx2];exact Nat.lt_succ_self _) hk
        rw[hx2]at hcs2
        have hEv:=hcs2.2 rfl
        have hch:=hr2.chs k
        rw[hx2]at hch
        have hok:ok≠some k:=fun hh=>by
         have:=hS.dead k hh
         rw[hx2]at this
         cases this
        refine fin _ e1 _ l (some k) (.one hst) hst.1 ?_ ⟨hS.news,hS.one,hS.ro,hS.own,fun k' hk' => ?_⟩ (fun k' hk'=>by cases hk';rw[Tr.e8]) (fun k' hk'=>by cases hk';exact hok) (I2.of hL hlg) hm
        ·rw[hEv]
         cases dp' with
         |true =>
          rcases OwnA.list hch with ⟨h1,h2⟩|⟨b,cap,cs,T0,vs,as,R,hbo,hrep⟩
          ·exact .nil h1 h2
          ·exact .row k b cap cs T0 vs as rfl R hbo (fun _ i j hi hj=>by simpa using hrep i j hi hj) (fun hd=>by cases hd)
         |false =>
          rcases hch with ⟨h1,h2⟩|⟨b,cap,cs,T0,vs,as,R,hbo,hrep⟩
          ·exact .nil h1 h2
          ·exact .row k b cap cs T0 vs as rfl R hbo (fun hd=>by cases hd) (fun _ i j hi hj=>hrep i j hi hj)
        ·rw[Tr.W4]
         split
         ·rfl
         ·exact hS.dead k' hk'
       ·exact hm.elim
      ·exact hm.elim
     ·exact hm.elim
    ·exact hm.elim
   ·exact hm.elim
 ·exact hm.elim
end
end Go.Sx
namespace Go.Sx
section
variable {P:Program} {ctx:Ctx} {B:Base} {e:Env} {a:Act} {w w':World} {σ : St} {o:Oper} {K:V→Hp→Prop} {next:Act→World→Prop} {Q:Exit→Act→World→Prop} {L:Locks} {hp:Hp}
theorem a0D {α : Type} (l:List α) (j:Nat) (m:List α) (h:j+m.length≤l.length) (k:Nat):(putAt l j m)[k]? = if j≤k∧k<j+m.length then m[k-j]? else l[k]? := by
 split
 ·rename_i hk
  have:=K9 l j m h (k-j) (by omega)
  rw[show j+(k-j)=k by omega]at this
  exact this
 ·exact A5 l j m h k (by omega)
theorem a5h (h:Rel B e w a.tmps σ) (pl:Nat→Option (Nat×Nat)) (offs:List (Nat×Nat)) (hpl : ∀i x,offs[i]? = some x→pl i=some x) : ∀(parts:List (Nat×Operand)) (arr:Array Value) (cs ds:List C),
  CRs e σ.hp w arr.toList cs→(∀u∈arr.toList,one u)→a6F offs cs (parts.map fun x=>(x.1,ev σ.tm x.2))=some ds →
  ∃arr',Instr.fill pl arr (parts.map fun x=>(x.1,a.eval x.2))=some arr'∧CRs e σ.hp w arr'.toList ds ∧ ∀u∈arr'.toList,one u
 |[],arr,cs,ds,hc,h1,hf=>by
  simp only[List.map_nil,a6F,Option.some.injEq]at hf
  subst hf
  exact⟨arr,rfl,hc,h1⟩
 |(i,x)::parts,arr,cs,ds,hc,h1,hf=>by
  simp only[List.map_cons,a6F]at hf
  split at hf
  ·rename_i o n hi
   split at hf
   ·rename_i hb
    simp only[Bool.and_eq_true,beq_iff_eq,decide_eq_true_eq]at hb
    obtain⟨⟨hkn,hlen⟩,hfit⟩:=hb
    obtain⟨k1,k2⟩:=V.a5d hkn
    obtain⟨g1,g2⟩:=b1q (p6 h x) k1 k2
    have hvl:(a.eval x).cells.toList.length=n:=by rw[g1.length,hlen]
    have hal:arr.toList.length=cs.length:=hc.length
    obtain⟨f1,f2⟩:=Great.foldl_set o (a.eval x).cells.toList 0 arr
    have hget : ∀k,(((a.eval x).cells.toList.zipIdx 0).foldl (fun cs (x:Value×Nat)=>cs.setIfInBounds (o+x.2) x.1) arr)[k]? = (putAt arr.toList o (a.eval x).cells.toList)[k]? := fun k=>by
     rw[f2 k,a0D _ _ _ (by rw[hvl,hal];exact hfit)]
     by_cases hk:o≤k∧k<o+(a.eval x).cells.toList.length
     ·have hsz:arr.size=cs.length:=by simpa using hal
      rw[if_pos (by omega),if_pos hk]
      simp
     ·rw[if_neg (by omega),if_neg hk]
      simp
    have hl:(((a.eval x).cells.toList.zipIdx 0).foldl (fun cs (x:Value×Nat)=>cs.setIfInBounds (o+x.2) x.1) arr).toList=putAt arr.toList o (a.eval x).cells.toList:=by
     apply List.ext_getElem?
     intro k
     rw[←hget k]
     simp
    obtain⟨arr',r1,r2,r3⟩:=a5h h pl offs hpl parts _ _ _ (by
     rw[hl]
     refine CRs.a2F ?_ fun k u c hu hcc => ?_
     ·rw[o8 _ _ _ (by rw[hvl,hal];exact hfit),o8 _ _ _ (by rw[hlen];exact hfit)];exact hal
     ·rw[a0D _ _ _ (by rw[hvl,hal];exact hfit)]at hu
      rw[a0D _ _ _ (by rw[hlen];exact hfit)]at hcc
      rw[hvl]at hu
      rw[hlen]at hcc
      split at hu
      ·rename_i hk
       rw[if_pos hk]at hcc
       obtain⟨u',hu',hcr⟩:=g1.get _ hcc
       rw[hu]at hu'
       cases hu'
       exact hcr
      ·rename_i hk
       rw[if_neg hk]at hcc
       obtain⟨u',hu',hcr⟩:=hc.get _ hcc
       rw[hu]at hu'
       cases hu'
       exact hcr) (fun u hu=>by
     rw[hl]at hu
     simp only[putAt,List.mem_append]at hu
     rcases hu with (hu|hu)|hu
     ·exact h1 u (List.mem_of_mem_take hu)
     ·exact g2 u hu
     ·exact h1 u (List.mem_of_mem_drop hu)) hf
    refine⟨arr',?_,r2,r3⟩
    rw[←r1]
    simp only[List.map_cons]
    conv=>lhs;unfold Instr.fill
    rw[hpl i _ hi]
    simp only
    have hvs:(a.eval x).cells.size=n:=by simpa using hvl
    have has:arr.size=cs.length:=by simpa using hal
    rw[if_neg (by rw[hvs,has];simp;omega)]
    congr 1
    rw[←Array.foldl_toList,Array.toList_zipIdx]
   ·cases hf
  ·cases hf
theorem c6K (h:Rel B e w a.tmps σ) (hd : ∀d,o.dst=some d→d<a.tmps.size) (hn:Nx B a σ o K next) (hty:TyOk P ctx.ty) {T:TypeId} {parts:Array (Nat×Operand)} (ho:o.op = .build T parts) (hm:(opM ctx σ.tm o).wp L σ.hp K):o.wp P a w next Q:=by
 simp only[opM,ho]at hm
 split at hm
 ·rename_i offs hdd
  split at hm
  ·rename_i cs hf
   obtain⟨inf,z,d,F⟩:=N6 (hty.get (T:=T) (by rw[hdd];simp))
   obtain⟨fs,rfl,h1,h2⟩:=a3N F.desc hdd
   obtain⟨z1,z2⟩:=a3b (e:=e) (w:=w) (hp := σ.hp) _ _ F.zeroOk
   obtain⟨arr,g1,g2,g3⟩:=a5h h (fun i=>offs[i]?) offs (fun _ _ h=>h) parts.toList z.cells _ _ z1 z2 hf
   have hpl:fs.toList.mapM (fun f=>(P.info? f.type).map fun i=>(f.offset,i.size))=some offs:=by
    rw[←h1]
    have : ∀l:List Field,(∀f∈l,∃j,P.info? f.type=some j∧j.size≠0)→l.mapM (fun f=>(P.info? f.type).map fun i=>(f.offset,i.size))=some (l.map fun f=>(f.offset,P.cellsOf f.type)):=by
     intro l hl
     induction l with
     |nil=>rfl
     |cons f l ih =>
      obtain⟨j,hj,_⟩:=hl f List.mem_cons_self
      rw[List.mapM_cons,ih fun g hg=>hl g (List.mem_cons_of_mem _ hg)]
      simp[hj,Program.cellsOf]
    exact this _ h2
   have hb:P.built T (parts.map fun x=>(x.1,a.eval x.2)).toList=some arr:=by
    simp only[Program.built,F.info,F.und,F.zero,hpl]
    rw[Array.toList_map,←g1]
    congr 1
    funext i
    simp
   refine G6 h hd hn (v := .agg arr) ?_ (x := .agg cs) ?_ hm
   ·simp[execOp,ho,run_build w T _ _ hb]
   ·simp only[VR]
    exact⟨arr,rfl,g2,g3⟩
  ·exact hm.elim
 ·exact hm.elim
theorem b6H (h:Rel B e w a.tmps σ) (hd : ∀d,o.dst=some d→d<a.tmps.size) (hn:Nx B a σ o K next) {fn:Fn} {first cap:Array Operand} (ho:o.op = .makeFunc fn first cap) (hm:(opM ctx σ.tm o).wp L σ.hp K):o.wp P a w next Q:=by
 simp only[opM,ho]at hm
 split at hm
 ·rename_i f
  replace hm:=M.p4 hm
  obtain⟨hb,hm⟩:=hm
  simp only[Bool.and_eq_true,Array.isEmpty_iff]at hb
  obtain⟨rfl,hb⟩:=hb
  refine d0e h hd hn ho ?_ hm
  have : ∀l:List Operand,(l.all fun x=>match ev σ.tm x with
   | .one _=>true
   |_=>false)=true→CRs e σ.hp w (l.map a.eval) (l.flatMap fun x=>(ev σ.tm x).cells):=by
   intro l hl
   induction l with
   |nil=>simp only[List.map_nil,List.flatMap_nil,CRs]
   |cons x l ih =>
    simp only[List.all_cons,Bool.and_eq_true]at hl
    have hx:=p6 h x
    have h1:=hl.1
    simp only[List.map_cons,List.flatMap_cons]
    revert h1 hx
    generalize ev σ.tm x=y
    intro hx h1
    cases y with
    |one c =>
     simp only[VR]at hx
     simp only[V.cells,List.cons_append,List.nil_append,CRs]
     exact⟨hx.1,ih hl.2⟩
    |_=>cases h1
  exact this _ hb
 ·exact hm.elim
theorem Flt.append {hp0 hp1 hp2:Hp} {us us':List Value} {as as':List A} {fl fl':List (Option Nat)} (F:Flt e hp0 hp1 w us as fl) (F':Flt e hp1 hp2 w us' as' fl'):Flt e hp0 hp2 w (us++us') (as++as') (fl++fl'):=by
 refine⟨by simp[F.len,F'.len],by simp[F.flen,F'.flen],fun m u a f hu ha hf => ?_,fun kd hk => ?_,fun m m' kd hm hm' => ?_,fun kd hk=>F'.dead kd (F.dead kd hk),fun kd hk => ?_⟩
 ·by_cases hlt:m<us.length
  ·rw[List.getElem?_append_left hlt]at hu
   rw[List.getElem?_append_left (by rw[F.len];exact hlt)]at ha
   rw[List.getElem?_append_left (by rw[F.flen];exact hlt)]at hf
   exact F.own m u a f hu ha hf
  ·rw[List.getElem?_append_right (by omega)]at hu
   rw[List.getElem?_append_right (by rw[F.len];omega),F.len]at ha
   rw[List.getElem?_append_right (by rw[F.flen];omega),F.flen]at hf
   exact F'.own _ u a f hu ha hf
 ·rcases List.mem_append.1 hk with hk|hk
  ·obtain⟨h1,h2⟩:=F.alive kd hk
   exact⟨h1,F'.dead kd h2⟩
  ·obtain⟨h1,h2⟩:=F'.alive kd hk
   exact⟨fun h0=>h1 (F.dead kd h0),h2⟩
 ·have cross : ∀m m',fl[m]? = some (some kd)→fl'[m']? = some (some kd)→False:=fun m m' h1 h2 =>
   (F'.alive kd (List.mem_of_getElem? h2)).1 (F.alive kd (List.mem_of_getElem? h1)).2
  by_cases h1:m<fl.length
  ·rw[List.getElem?_append_left h1]at hm
   by_cases h2:m'<fl.length
   ·rw[List.getElem?_append_left h2]at hm'
    exact F.inj m m' kd hm hm'
   ·rw[List.getElem?_append_right (by omega)]at hm'
    exact(cross _ _ hm hm').elim
  ·rw[List.getElem?_append_right (by omega)]at hm
   by_cases h2:m'<fl.length
   ·rw[List.getElem?_append_left h2]at hm'
    exact(cross _ _ hm' hm).elim
   ·rw[List.getElem?_append_right (by omega)]at hm'
    have:=F'.inj _ _ kd hm hm'
    omega
 ·simp only[List.mem_append,not_or]at hk
  rw[F'.keep kd hk.2,F.keep kd hk.1]
theorem b5E {hp0:Hp} (h:HR e hp w) {us:List Value} {as:List A} {fl:List (Option Nat)} (F:Flt e hp0 hp w us as fl) {key n E:Nat} {arr:Array Value} {t:RT} {l:Th (List t.ty)} (harr:arr.toList=us) (hlen:us.length=n * t.size)
  (hn:(l ()).length=n) (hL:I2 t n) (hcel : ∀i j,i<n→j<t.size → ∃a,as[i * t.size+j]? = some a∧A.same a (asOf t (l ()) i j)) (hk:keeps (hp.get key) ((hp.get key).1+1,.row true 0 t l)=true) :
  ∃e',Stp e hp w e' (hp.set key ((hp.get key).1+1,.row true 0 t l)) (w.alloc (.cells arr E))∧e'.E key = .slice (some ⟨w.heap.size,0,none⟩) n n:=by
 subst harr
 let g:Nat→Path→Option Path:=fun kd q=>match pos fl kd with
  |some m=>some ((m / t.size,m%t.size)::q)
  |none=>none
 have hheap : ∀b,b<w.heap.size→(w.alloc (.cells arr E)).heap[b]? = w.heap[b]? := fun b hb=>heap_alloc_old w _ b hb
 refine⟨e.mv key (some w.heap.size) (.slice (some ⟨w.heap.size,0,none⟩) n n) g,Y7 h key _ _ _ g (Nat.lt_succ_self _) hk (fun kd q p hg => ?_) rfl rfl rfl (by simp) (fun b hb=>by cases hb;exact⟨Nat.le_refl _,by simp⟩) (fun b hb => .inl (hheap b hb)) fun hsr => ?_,by simp[Env.mv]⟩
 ·simp only[g]at hg
  split at hg
  ·rename_i m hm
   exact(F.alive kd (List.mem_of_getElem? (a5S _ _ _ hm))).2
  ·cases hg
 ·show OwnA _ key _ [] (if key=key then _ else _) (.list t l)
  rw[if_pos rfl]
  have hs:arr.size=n * t.size:=by simpa using hlen
  have hval : ∀i j,i<n→j<t.size→arr[i * t.size+j]? = some ((arr[i * t.size+j]?).getD .nilFunc):=fun i j hi hj=>by
   have:=Y3 hi hj
   rw[Array.getElem?_eq_getElem (by omega)]
   rfl
  have hRow:RowM (w.alloc (.cells arr E)) t (l ()) (.slice (some ⟨w.heap.size,0,none⟩) n n) w.heap.size n arr E (fun i j=>(arr[i * t.size+j]?).getD .nilFunc) (asOf t (l ())) :=
   ⟨by rw[hn],heap_alloc_new w _,by omega,by have:=hL.le;simp only[maxLen];omega,hs,by rw[hn];exact hL,fun i j hi hj=>⟨E7 hj,hval i j (by omega) hj⟩⟩
  refine hRow.own Env.b4C fun i j hi hj => ?_
  rw[hn]at hi
  obtain⟨a,ha,hsm⟩:=hcel i j hi hj
  have hu:arr.toList[i * t.size+j]? = some ((arr[i * t.size+j]?).getD .nilFunc):=by rw[←hval i j hi hj];simp
  have hml:i * t.size+j<fl.length:=by rw[F.flen];exact(List.getElem?_eq_some_iff.1 hu).1
  have hfm:=List.getElem?_eq_getElem hml
  have hown:=F.own _ _ _ _ hu ha hfm
  cases hf:fl[i * t.size+j]with
  |none =>
   rw[hf]at hown
   exact(hown _ _ _ _).same hsm
  |some kd =>
   rw[hf]at hown hfm
   refine OwnA.same ?_ hsm
   refine hown.mono _ fun b r hb=>⟨Env.a4E (fun hh => ?_) hb ?_,hheap b (h.oOk b _ hb)⟩
   ·have:=h.oOk b _ hb
    cases hh
    omega
   ·simp only[g,F.pos hfm]
    have hj0:0<t.size:=by omega
    have h1:(i * t.size+j) / t.size=i:=by rw[Nat.mul_comm,Nat.mul_add_div hj0,Nat.div_eq_of_lt hj];omega
    have h2:(i * t.size+j)%t.size=j:=by rw[Nat.mul_comm,Nat.mul_add_mod,Nat.mod_eq_of_lt hj]
    simp[h1,h2]
theorem b5D (h:HR e hp w) {us:List Value} {as:List A} (hrep : ∀(m:Nat) u a,us[m]? = some u→as[m]? = some a→Rep e.S w u a) {key n E:Nat} {arr:Array Value} {t:RT} {l:Th (List t.ty)} (harr:arr.toList=us) (hlen:us.length=n * t.size)
  (hn:(l ()).length=n) (hL:I2 t n) (hcel : ∀i j,i<n→j<t.size → ∃a,as[i * t.size+j]? = some a∧A.same a (asOf t (l ()) i j)) (hk:keeps (hp.get key) ((hp.get key).1+1,.row false 0 t l)=true) :
  ∃e',Stp e hp w e' (hp.set key ((hp.get key).1+1,.row false 0 t l)) (w.alloc (.cells arr E))∧e'.E key = .slice (some ⟨w.heap.size,0,none⟩) n n:=by
 subst harr
 have hheap : ∀b,b<w.heap.size→(w.alloc (.cells arr E)).heap[b]? = w.heap[b]? := fun b hb=>heap_alloc_old w _ b hb
 refine⟨e.mv key (some w.heap.size) (.slice (some ⟨w.heap.size,0,none⟩) n n) fun _ _=>none,Y7 h key _ _ _ _ (Nat.lt_succ_self _) hk (fun kd q p hg=>by cases hg) rfl rfl rfl (by simp) (fun b hb=>by cases hb;exact⟨Nat.le_refl _,by simp⟩) (fun b hb => .inl (hheap b hb)) fun hsr => ?_,by simp[Env.mv]⟩
 have hs:arr.size=n * t.size:=by simpa using hlen
 have hval : ∀i j,i<n→j<t.size→arr[i * t.size+j]? = some ((arr[i * t.size+j]?).getD .nilFunc):=fun i j hi hj=>by
  have:=Y3 hi hj
  rw[Array.getElem?_eq_getElem (by omega)]
  rfl
 have hRow:RowM (w.alloc (.cells arr E)) t (l ()) (.slice (some ⟨w.heap.size,0,none⟩) n n) w.heap.size n arr E (fun i j=>(arr[i * t.size+j]?).getD .nilFunc) (asOf t (l ())) :=
  ⟨by rw[hn],heap_alloc_new w _,by omega,by have:=hL.le;simp only[maxLen];omega,hs,by rw[hn];exact hL,fun i j hi hj=>⟨E7 hj,hval i j (by omega) hj⟩⟩
 refine .inr ⟨w.heap.size,n,arr,E,(fun i j=>(arr[i * t.size+j]?).getD .nilFunc),asOf t (l ()),?_,Env.b4C,fun i j hi hj => ?_⟩
 ·rw[show(e.mv key (some w.heap.size) (.slice (some ⟨w.heap.size,0,none⟩) n n) fun _ _=>none).E key = .slice (some ⟨w.heap.size,0,none⟩) n n by simp[Env.mv]]
  exact hRow
 ·rw[hn]at hi
  obtain⟨a,ha,hsm⟩:=hcel i j hi hj
  have hu:arr.toList[i * t.size+j]? = some ((arr[i * t.size+j]?).getD .nilFunc):=by rw[←hval i j hi hj];simp
  exact((hrep _ _ _ hu ha).same hsm).mono hsr.S
def a3W (t:RT) (n:Nat) (as:List A) (l:List t.ty):Prop:=as.length=n * t.size∧l.length=n ∧ ∀i j,i<n→j<t.size → ∃a,as[i * t.size+j]? = some a∧A.same a (asOf t l i j)
theorem a3W.cons {t:RT} {n:Nat} {as as':List A} {l:List t.ty} {x:Th t.ty} (h:Same as (enc t x)) (h':a3W t n as' l):a3W t (n+1) (as++as') (x ()::l):=by
 obtain⟨h1,h2,h3⟩:=h'
 have hl:as.length=t.size:=by rw[h.length,D8]
 refine⟨by rw[List.length_append,hl,h1,Nat.add_mul];omega,by simp[h2],fun i j hi hj => ?_⟩
 cases i with
 |zero =>
  obtain⟨a,ha⟩ : ∃a,as[j]? = some a:=⟨_,List.getElem?_eq_getElem (by omega)⟩
  obtain⟨b,hb,hab⟩:=h.get j ha
  refine⟨a,by rw[Nat.zero_mul,Nat.zero_add,List.getElem?_append_left (by omega)];exact ha,?_⟩
  rw[S9 (a:=b) (by unfold celA;exact hb)]
  exact hab
 |succ i =>
  obtain⟨a,ha,hab⟩:=h3 i j (by omega) hj
  refine⟨a,by rw[List.getElem?_append_right (by rw[hl,Nat.add_mul];omega),hl,←ha];congr 1;rw[Nat.add_mul];omega,?_⟩
  exact hab
theorem a3W.nil (t:RT):a3W t 0 [] []:=⟨by simp,rfl,fun i j hi=>by omega⟩
theorem c8u (t:RT) : ∀(n:Nat) (cs:List C) (us:List Value) (hp:Hp) (K:List (Th t.ty)→Hp→Prop),HR e hp w→CRs e hp w us cs→us.length=n * t.size→(elems true t n cs).wp L hp K →
  ∃hp' es as fl,Stps e hp w e hp' w∧K es hp'∧Flt e hp hp' w us as fl∧a3W t n as (evT es)
 | 0,cs,us,hp,K,h,hc,hl,hm=>by
  obtain rfl:us = []:=List.eq_nil_of_length_eq_zero (by simpa using hl)
  exact⟨hp,[],[],[],.refl _ _ _,hm,⟨rfl,rfl,fun m u a f hu=>(by simp at hu),fun kd hk=>(by cases hk),fun m m' kd h=>(by simp at h),fun _ h=>h,fun _ _=>rfl⟩,a3W.nil t⟩
 |n+1,cs,us,hp,K,h,hc,hl,hm=>by
  simp only[elems]at hm
  rw[M.wp_bind]at hm
  have hcl:=hc.length
  have hl':us.length=n * t.size+t.size:=by rw[hl,Nat.add_mul];omega
  have hc1:CRs e hp w (us.take t.size) (cs.take t.size):=CRs.a2F (by simp[hcl]) fun j u c hu hcc=>by
   rw[List.getElem?_take]at hu hcc
   split at hu
   ·rename_i hj
    rw[if_pos hj]at hcc
    obtain⟨u',h1,h2⟩:=hc.get j hcc
    rw[hu]at h1
    cases h1
    exact h2
   ·cases hu
  have hc2:CRs e hp w (us.drop t.size) (cs.drop t.size):=CRs.a2F (by simp[hcl]) fun j u c hu hcc=>by
   rw[List.getElem?_drop]at hu hcc
   obtain⟨u',h1,h2⟩:=hc.get _ hcc
   rw[hu]at h1
   cases h1
   exact h2
  obtain⟨hp1,as,fl,hst,hm,F⟩:=a6L _ _ _ _ _ h hc1 hm
  split at hm
  ·rename_i x hx
   rw[M.wp_bind]at hm
   obtain⟨hp2,es,as',fl',hst',hK,F',hO⟩:=c8u t n _ _ hp1 _ (hst.hr h) (hst.CRs hc2) (by simp;omega) hm
   refine⟨hp2,x::es,as++as',fl++fl',hst.trans hst',hK,?_,a3W.cons (X1 _ _ _ hx) hO⟩
   have:=F.append F'
   rwa [List.take_append_drop]at this
  ·exact hm.elim
theorem c8v (t:RT) : ∀(n:Nat) (cs:List C) (us:List Value) (e:Env) (hp:Hp) (K:List (Th t.ty)→Hp→Prop),HR e hp w→CRs e hp w us cs→us.length=n * t.size→(elems false t n cs).wp L hp K →
  ∃e' hp' es as,Stps e hp w e' hp' w∧K es hp'∧(∀(m:Nat) u a,us[m]? = some u→as[m]? = some a→Sx.Rep e'.S w u a)∧a3W t n as (evT es)
 | 0,cs,us,e,hp,K,h,hc,hl,hm=>by
  obtain rfl:us = []:=List.eq_nil_of_length_eq_zero (by simpa using hl)
  exact⟨e,hp,[],[],.refl _ _ _,hm,fun m u a hu=>(by simp at hu),a3W.nil t⟩
 |n+1,cs,us,e,hp,K,h,hc,hl,hm=>by
  simp only[elems]at hm
  rw[M.wp_bind]at hm
  have hcl:=hc.length
  have hl':us.length=n * t.size+t.size:=by rw[hl,Nat.add_mul];omega
  have hc1:CRs e hp w (us.take t.size) (cs.take t.size):=CRs.a2F (by simp[hcl]) fun j u c hu hcc=>by
   rw[List.getElem?_take]at hu hcc
   split at hu
   ·rename_i hj
    rw[if_pos hj]at hcc
    obtain⟨u',h1,h2⟩:=hc.get j hcc
    rw[hu]at h1
    cases h1
    exact h2
   ·cases hu
  have hc2:CRs e hp w (us.drop t.size) (cs.drop t.size):=CRs.a2F (by simp[hcl]) fun j u c hu hcc=>by
   rw[List.getElem?_drop]at hu hcc
   obtain⟨u',h1,h2⟩:=hc.get _ hcc
   rw[hu]at h1
   cases h1
   exact h2
  obtain⟨e1,hp1,as,hst,hm,hal,hrep⟩:=b5i _ _ _ _ _ _ h hc1 hm
  split at hm
  ·rename_i x hx
   rw[M.wp_bind]at hm
   obtain⟨e2,hp2,es,as',hst',hK,hrep',hO⟩:=c8v t n _ _ e1 hp1 _ (hst.hr h) (hst.CRs hc2) (by simp;omega) hm
   refine⟨e2,hp2,x::es,as++as',hst.trans hst',hK,fun m u a hu ha => ?_,a3W.cons (X1 _ _ _ hx) hO⟩
   have htl:(us.take t.size).length=t.size:=by simp;omega
   by_cases hlt:m<t.size
   ·rw[List.getElem?_append_left (by omega)]at ha
    exact hst'.Rep (hrep m u a (by rw[List.getElem?_take,if_pos hlt];exact hu) ha)
   ·rw[List.getElem?_append_right (by omega),hal,htl]at ha
    exact hrep' (m-t.size) u a (by rw[List.getElem?_drop,show t.size+(m-t.size)=m by omega];exact hu) ha
  ·exact hm.elim
theorem b7m (n:Nat) (z:List C):(litC n z).length=n * z.length:=by
 induction n with
 |zero=>simp[litC]
 |succ n ih=>simp[litC,ih,Nat.add_mul];omega
def litV (n:Nat) (z:List Value):List Value:=match n with
 | 0 => []
 |n+1=>z++litV n z
theorem a1p (n:Nat) (z:List Value):(litV n z).length=n * z.length:=by
 induction n with
 |zero=>simp[litV]
 |succ n ih=>simp[litV,ih,Nat.add_mul];omega
theorem b0t (z:List Value) : ∀(n i j:Nat),i<n→j<z.length→(litV n z)[i * z.length+j]? = z[j]?
 | 0,i,j,hi,_=>by omega
 |n+1,0,j,_,hj=>by simp[litV,List.getElem?_append_left hj]
 |n+1,i+1,j,hi,hj=>by
  rw[litV,List.getElem?_append_right (by rw[Nat.add_mul];omega),←b0t z n i j (by omega) hj]
  congr 1
  rw[Nat.add_mul]
  omega
theorem CRs.append {us us':List Value} {cs cs':List C} (h:CRs e hp w us cs) (h':CRs e hp w us' cs'):CRs e hp w (us++us') (cs++cs'):=by
 induction us generalizing cs with
 |nil=>cases cs with
  |nil=>exact h'
  |cons _ _=>simp only[CRs]at h
 |cons u us ih=>cases cs with
  |nil=>simp only[CRs]at h
  |cons c cs =>
   simp only[CRs,List.cons_append]at *
   exact⟨h.1,ih h.2⟩
theorem d0K {zs:List Value} {cs:List C} (h:CRs e hp w zs cs) (n:Nat):CRs e hp w (litV n zs) (litC n cs):=by
 induction n with
 |zero=>simp only[litV,litC,CRs]
 |succ n ih=>exact h.append ih
theorem d0J {zs:List Value} (h : ∀u∈zs,one u) (n:Nat) : ∀u∈litV n zs,one u:=by
 induction n with
 |zero=>intro u hu;cases hu
 |succ n ih =>
  intro u hu
  rcases List.mem_append.1 hu with hu|hu
  ·exact h u hu
  ·exact ih u hu
theorem a4H (z:Array Value) (hz:0<z.size) (n:Nat):(madeCells z (n * z.size)).toList=litV n z.toList:=by
 apply List.ext_getElem?
 intro k
 by_cases hk:k<n * z.size
 ·have h1:k / z.size<n:=Nat.div_lt_of_lt_mul (by rw[Nat.mul_comm];exact hk)
  have h2:k%z.size<z.size:=Nat.mod_lt _ hz
  have h3:=b0t z.toList n (k / z.size) (k%z.size) h1 (by simpa using h2)
  have h4:k / z.size * z.toList.length+k%z.size=k:=by
   have:=Nat.div_add_mod k z.size
   rw[Nat.mul_comm]at this
   simpa using this
  rw[h4]at h3
  rw[h3]
  simp[madeCells,List.getElem?_range hk,h2]
 ·rw[List.getElem?_eq_none (by simp[madeCells];omega),List.getElem?_eq_none (by rw[a1p];simp;omega)]
end
end Go.Sx
namespace Go.Sx
section
variable {P:Program} {ctx:Ctx} {B:Base} {e:Env} {a:Act} {w w':World} {σ : St} {o:Oper} {K:V→Hp→Prop} {next:Act→World→Prop} {Q:Exit→Act→World→Prop} {L:Locks} {hp:Hp}
theorem a9M (s:Nat) : ∀(n i0 i:Nat) (x:Nat×Nat),(a1B s i0 n)[i]? = some x→x=((i0+i) * s,s)
 | 0,i0,i,x,h=>by simp[a1B]at h
 |n+1,i0,0,x,h=>by simp[a1B]at h;rw[←h];simp
 |n+1,i0,i+1,x,h=>by
  have:=a9M s n (i0+1) i x (by simpa [a1B]using h)
  rw[this]
  congr 2
  omega
theorem RT.size_pos (t:RT) (h:t.O8=false):0<t.size:=Sx.size_pos t h
theorem a9u {T E n:Nat} {inf:TypeInfo} {z:Value} {t:RT} {parts:Array (Nat×Value)} {cells:Array Value} (hu:P.underlying T=some (.slice E)) (hi:P.info? E=some inf) (hz:inf.zero=some z) (hsz:inf.size=t.size) (hzs:z.cells.size=t.size) (hlg:t.O8=false)
  (hn:n * t.size≤1048576) (hf:Instr.fill (fun i=>some (i * t.size,t.size)) (madeCells z.cells (n * z.cells.size)) parts.toList=some cells) :
  (Instr.buildSlice T n parts).run P w = .ok (.slice (some ⟨w.heap.size,0,none⟩) n n) (w.alloc (.cells cells E)):=by
 have h1 : ¬(16777216<n * t.size):=by omega
 have hpos:=t.size_pos hlg
 rw[hzs]at hf
 by_cases h0:n * t.size=0
 ·have hmc:madeCells z.cells (n * t.size) = #[]:=by simp[madeCells,h0]
  rw[hmc]at hf
  simp[Instr.buildSlice,run_underlying hu,sizeOf,typeInfo,hi,hsz,h0,hf,Go.newRow,Array.range_zero']
 ·have hmc:madeCells z.cells (n * t.size)=(Array.range (n * t.size)).map (z.cells[· % z.cells.size]!):=rfl
  rw[hmc]at hf
  simp[Instr.buildSlice,run_underlying hu,sizeOf,typeInfo,zeroValue,hz,hi,hsz,h1,h0,hf,Go.newRow]
theorem b1A (h:Rel B e w a.tmps σ) (hd : ∀d,o.dst=some d→d<a.tmps.size) (hn:Nx B a σ o K next) (hty:TyOk P ctx.ty) {T:TypeId} {n:Nat} {parts:Array (Nat×Operand)} (ho:o.op = .buildSlice T n parts) (hm:(opM ctx σ.tm o).wp L σ.hp K):o.wp P a w next Q:=by
 simp only[opM,ho]at hm
 split at hm
 ·rename_i E hE
  split at hm
  ·rename_i t ht
   replace hm:=M.p4 hm
   obtain⟨hb,hm⟩:=hm
   simp only[Bool.and_eq_true,decide_eq_true_eq]at hb
   obtain⟨E',inf,z,hu,hi,hsz,hby,hz,hzc,hzs,hE',_,_,hbt,hlg⟩:=a4t hty (T:=T) (t:=t) (by simp[a2O,isRt,hE,ht])
   rw[hE]at hE'
   cases hE'
   split at hm
   ·rename_i cs hf
    obtain⟨z1,z2⟩:=a3b (e:=e) (w:=w) (hp := σ.hp) _ _ hzc
    have hmade:=a4H z.cells (by rw[hzs];exact t.size_pos hlg) n
    obtain⟨arr,g1,g2,g3⟩:=a5h h (fun i=>some (i * t.size,t.size)) (a1B t.size 0 n) (fun i x hx=>by rw[a9M _ _ _ _ _ hx];simp) parts.toList (madeCells z.cells (n * z.cells.size)) _ cs
     (by rw[hmade];exact d0K z1 n) (by rw[hmade];exact d0J z2 n) hf
    have hrun:=a9u (P:=P) (w:=w) (parts:=parts.map fun x=>(x.1,a.eval x.2)) hu hi hz hsz hzs hlg hb.1 (by rw[Array.toList_map];exact g1)
    have hLen : ∀(ds:List C) (cs:List C) (ps:List (Nat×V)),a6F (a1B t.size 0 n) cs ps=some ds→ds.length=cs.length:=by
     intro ds cs ps
     induction ps generalizing cs with
     |nil=>intro hh;simp only[a6F,Option.some.injEq]at hh;rw[hh]
     |cons x ps ih =>
      intro hh
      obtain⟨i,v⟩:=x
      simp only[a6F]at hh
      split at hh
      ·split at hh
       ·rename_i hb
        simp only[Bool.and_eq_true,beq_iff_eq,decide_eq_true_eq]at hb
        rw[ih _ hh,o8 _ _ _ (by rw[hb.1.2];exact hb.2)]
       ·cases hh
      ·cases hh
    have hlen:arr.toList.length=n * t.size:=by
     rw[g2.length,hLen _ _ _ hf,b7m,←z1.length]
     simp[hzs]
    have hL:I2 t n:=I2.of (by rw[←hbt];omega) hlg
    rw[M.wp_bind]at hm
    have hrun':(execOp a.eval o).run P w = .ok (.value (.slice (some ⟨w.heap.size,0,none⟩) n n)) (w.alloc (.cells arr E)):=by simp[execOp,ho,hrun]
    cases hco:b5a cs with
    |true =>
     rw[hco]at hm
     obtain⟨hp',es,as,fl,hst,hm,F,hO⟩:=c8u t n cs _ _ _ h.hr g2 hlen hm
     obtain⟨hk,hK⟩:=a0E hm
     obtain⟨e',hst',hEv⟩:=b5E (E:=E) (hst.hr h.hr) F rfl hlen hO.2.1 hL hO.2.2 hk
     exact a5p h hd hn hrun' (hst.trans (.one hst')) (a7K rfl hEv) hK
    |false =>
     rw[hco]at hm
     obtain⟨e1,hp',es,as,hst,hm,hrep,hO⟩:=c8v t n cs _ _ _ _ h.hr g2 hlen hm
     obtain⟨hk,hK⟩:=a0E hm
     obtain⟨e',hst',hEv⟩:=b5D (E:=E) (hst.hr h.hr) hrep rfl hlen hO.2.1 hL hO.2.2 hk
     exact a5p h hd hn hrun' (hst.trans (.one hst')) (a7K rfl hEv) hK
   ·exact hm.elim
  ·exact hm.elim
 ·exact hm.elim
def d3o (u:Value):Prop := ∀om k (p:Path) w w' om' k' (p':Path) a,OwnA om k w p u a→OwnA om' k' w' p' u a
theorem b1H : ∀(zs:List ZC) (vs:List Value) (s:List (Option RT)),a4v zs vs=true→a1y s zs=true → ∀u∈vs,d3o u
 |[],[],_,_,_=>fun u hu=>by cases hu
 |[],_::_,_,h,_=>by cases h
 |_::_,[],_,h,_=>by cases h
 |z::zs,v::vs,[],_,h=>by cases z<;>simp[a1y]at h
 |z::zs,v::vs,o::s,h,hs=>by
  simp only[a4v,Bool.and_eq_true]at h
  have hs':a1y s zs=true∧z ≠ .other:=by
   cases o<;>cases z<;>simp[a1y]at hs<;>exact⟨hs,by simp⟩
  intro u hu
  rcases List.mem_cons.1 hu with rfl|hu
  ·intro om k p w w' om' k' p' a ho
   have hz:=h.1
   cases ho with
   |int p kd n h1 h2=>exact .int p' kd n h1 h2
   |bool p b=>exact .bool p' b
   |nil p t l hl=>exact .nil p' t l hl
   |row p t l b cap cs T vs' as hb hh hc hm hss hl hg hr =>
    exfalso
    cases z with
    |slice=>have:=b5m hz;cases this
    |other=>exact hs'.2 rfl
    |int k=>simp[a3d]at hz
    |bool=>simp[a3d]at hz
  ·exact b1H zs vs s h.2 hs'.1 u hu
theorem b4l (h:Rel B e w a.tmps σ) (hd : ∀d,o.dst=some d→d<a.tmps.size) (hn:Nx B a σ o K next) (hty:TyOk P ctx.ty) {T:TypeId} {x y:Operand} (ho:o.op = .makeSlice T x y) (hm:(opM ctx σ.tm o).wp L σ.hp K):o.wp P a w next Q:=by
 have hx:=p6 h x
 have hy:=p6 h y
 simp only[opM,ho]at hm
 split at hm
 ·rename_i E n m hE hxe hye
  rw[hxe]at hx
  rw[hye]at hy
  obtain⟨hxv,_⟩:=R6 hx
  obtain⟨hyv,_⟩:=R6 hy
  split at hm
  ·rename_i t ht
   obtain⟨E',inf,z,hu,hi,hsz,hby,hz,hzc,hzs,hE',_,hsh,hbt,hlg⟩:=a4t hty (T:=T) (t:=t) (by simp[a2O,isRt,hE,ht])
   rw[hE]at hE'
   cases hE'
   obtain⟨z1,z2⟩:=a3b (e:=e) (w:=w) (hp := σ.hp) _ _ hzc
   rw[M.wp_bind]at hm
   obtain⟨hp',as,fl,hst,hm,F⟩:=a6L _ _ _ _ _ h.hr z1 hm
   split at hm
   ·rename_i zz hdec
    obtain⟨hob,hm⟩:=hm
    have hnm:n ()=m ()∧0≤n ():=hob.out
    obtain⟨hob2,hm⟩:=hm
    have hbytes:(n ()).toNat * (ctx.ty.get E).bytes≤140737488355328:=hob2.out
    obtain⟨hk,hK⟩:=a0E hm
    have hL:I2 t (n ()).toNat:=I2.of (by rw[←hbt];exact hbytes) hlg
    have hle:=I2.leN hL.1 hlg
    have hsame:=X1 _ _ _ hdec
    have hasl:as.length=t.size:=by rw[hsame.length,D8]
    have hzl:z.cells.toList.length=t.size:=by simpa using hzs
    have hnat:((n ()).toNat:Int)=n ():=by omega
    have hmade:=a4H z.cells (by rw[hzs];exact t.size_pos hlg) (n ()).toNat
    have hrun:=run_make (P:=P) w T E inf z hu hi hz .i64 .i64 (n ()) (m ()) hnm.2 (by omega) (by
     rw[←hnm.1,hby,←hbt]
     have h1:(((ctx.ty.get E).bytes * (n ()).toNat:Nat):Int)≤140737488355328:=by
      rw[Nat.mul_comm]at hbytes
      exact Int.ofNat_le.2 hbytes
     rw[Int.natCast_mul,hnat]at h1
     omega) (by omega)
    rw[←hnm.1]at hrun
    have hsimp:=b1H _ _ _ hzc hsh
    let as':List A:=a6D (n ()).toNat t.size fun _ j=>as.getD j (.bool .ff)
    have hr':=hst.hr h.hr
    have F':Flt e hp' hp' w (litV (n ()).toNat z.cells.toList) as' (List.replicate ((n ()).toNat * t.size) none):=by
     refine⟨by simp[as',a2N,a1p,hzl],by simp[a1p,hzl],fun k u a f hu' ha hf => ?_,fun kd hk=>by simp at hk,fun k k' kd hk => ?_,fun _ hh=>hh,fun _ _=>rfl⟩
     ·have hf':f=none:=by
       have:=List.mem_of_getElem? hf
       simp at this
       exact this.2
      subst hf'
      obtain⟨i1,i2,i3,i4⟩:=a7H ha
      have hg:=b0t z.cells.toList (n ()).toNat (k / t.size) (k%t.size) i1 (by rw[hzl];exact i2)
      rw[hzl,←i4,hu']at hg
      have hmem:u∈z.cells.toList:=List.mem_of_getElem? hg.symm
      have ha':as[k%t.size]? = some a:=by
       rw[i3]
       simp[List.getD,show k%t.size<as.length by omega]
      have hfm:fl[k%t.size]? = some (fl[k%t.size]'(by rw[F.flen];omega)):=List.getElem?_eq_getElem _
      have hown:=F.own _ _ _ _ hg.symm ha' hfm
      intro om k0 p w0
      cases hfe:fl[k%t.size]'(by rw[F.flen];omega)with
      |none=>rw[hfe]at hown;exact hown _ _ _ _
      |some kd=>rw[hfe]at hown;exact hsimp u hmem _ _ _ _ _ _ _ _ _ hown
     ·have:=List.mem_of_getElem? hk
      simp at this
    have hcel : ∀i j,i<(n ()).toNat→j<t.size → ∃a,as'[i * t.size+j]? = some a∧A.same a (asOf t (List.replicate (n ()).toNat (zz ())) i j):=fun i j hi' hj=>by
     refine⟨_,b2Y _ hi' hj,?_⟩
     have ha:as[j]? = some (as.getD j (.bool .ff)):=by simp[List.getD,show j<as.length by omega]
     obtain⟨b,hb,hab⟩:=hsame.get j ha
     rw[S9 (a:=b)]
     ·exact hab
     ·unfold celA
      rw[←hb]
      congr 2
      funext _
      rw[l7 t _ i (by simpa using hi')]
      simp
    obtain⟨e',hst',hEv⟩:=b5E (E:=E) hr' F' hmade (by rw[a1p,hzl]) (by simp) hL hcel hk
    refine a5p h hd hn (v := .slice (some ⟨w.heap.size,0,none⟩) (n ()).toNat (n ()).toNat) ?_ (hst.trans (.one hst')) (a7K rfl hEv) hK
    rw[hzs]at *
    rw[hsz]at hrun
    simp[execOp,ho,hxv,hyv,←hnm.1,hrun]
   ·exact hm.elim
  ·exact hm.elim
 ·exact hm.elim
end
end Go.Sx
namespace Go.Sx
section
variable {P:Program} {ctx:Ctx} {B:Base} {e:Env} {a:Act} {w w':World} {σ τ : St} {o:Oper} {K:V→Hp→Prop} {next:Act→World→Prop} {Q:Exit→Act→World→Prop} {L:Locks} {hp:Hp}
theorem c6J (h:Rel B e w a.tmps σ) (hd : ∀d,o.dst=some d→d<a.tmps.size) (hn:Nx B a σ o K next) (hty:TyOk P ctx.ty) {T:TypeId} {x:Operand} {f:Nat} (ho:o.op = .field T x f) (hm:(opM ctx σ.tm o).wp L σ.hp K):o.wp P a w next Q:=by
 have hx:=p6 h x
 simp only[opM,ho]at hm
 split at hm
 rotate_left
 ·exact hm.elim
 rename_i offs hT
 split at hm
 rotate_left
 ·exact hm.elim
 rename_i off n T2 cs h1 h2 hxe
 replace hm:=M.p4 hm
 obtain⟨hg,hm⟩:=hm
 simp only[Bool.and_eq_true,decide_eq_true_eq,beq_iff_eq]at hg
 obtain⟨⟨hlen,hcells⟩,hno⟩:=hg
 rw[hxe]at hx
 simp only[VR]at hx
 obtain⟨arr,hva,hcs,hone⟩:=hx
 obtain⟨inf,z,d,F⟩:=N6 (hty.get (T:=T) (by rw[hT];simp))
 obtain⟨fs,hds,hoffs,_⟩:=a3N F.desc hT
 obtain⟨fs',hds',hfts⟩:=F.fts (by
  intro he
  rw[he]at h2
  simp at h2)
 rw[hds]at hds'
 cases hds'
 rw[←hoffs,List.getElem?_map]at h1
 rw[←hfts,List.getElem?_map]at h2
 cases hfl:fs.toList[f]? with
 |none=>rw[hfl]at h1;simp at h1
 |some fl =>
  rw[hfl]at h1 h2
  simp only[Option.map_some,Option.some.injEq,Prod.mk.injEq]at h1 h2
  obtain⟨ho1,_⟩:=h1
  obtain⟨inf2,z2,d2,F2⟩:=N6 (hty.get (T:=T2) (by
   intro he
   rw[he]at hno
   cases hno))
  have hund:P.underlying T=some (.struct fs):=by rw[F.und,hds]
  have hfs:fs[f]? = some fl:=by simpa using hfl
  have hal:arr.toList.length=cs.length:=hcs.length
  have hagg:(isAgg T2).run P w = .ok (aggD d2) w:=by
   unfold isAgg
   simp only[Sem.run_bind,run_underlying F2.und,Result.andThen_ok]
   cases d2<;>rfl
  rw[b1d F2.desc]at hagg
  have hsz:(sizeOf T2).run P w = .ok n w:=by simp[sizeOf,typeInfo,F2.info,F2.size,hcells]
  have hcs2:CRs e σ.hp w ((arr.toList.drop off).take n) ((cs.drop off).take n):=by
   refine CRs.a2F (by simp[hal]) fun j v c hv hc => ?_
   rw[List.getElem?_take,List.getElem?_drop]at hv hc
   split at hc
   ·rename_i hj
    rw[if_pos hj]at hv
    obtain⟨v',hv',hcr⟩:=hcs.get _ hc
    rw[hv]at hv'
    cases hv'
    exact hcr
   ·cases hc
  have hone2 : ∀u∈(arr.toList.drop off).take n,one u:=fun u hu=>hone u (List.mem_of_mem_drop (List.mem_of_mem_take hu))
  unfold mkV at hm
  cases hs:W0 (ctx.ty.get T2).d with
  |true =>
   rw[hs]at hm hagg
   simp only[if_true,M.wp]at hm
   refine G6 h hd hn (v := .agg (arr.extract off (off+n))) ?_ ?_ hm
   ·simp[execOp,ho,Instr.field,hva,run_underlying hund,hfs,asAgg,part,h2,hagg,hsz,ho1]
   ·simp only[VR]
    refine⟨_,rfl,?_,?_⟩
    ·rw[Array.toList_extract,List.extract_eq_take_drop,Nat.add_sub_cancel_left];exact hcs2
    ·rw[Array.toList_extract,List.extract_eq_take_drop,Nat.add_sub_cancel_left];exact hone2
  |false =>
   rw[hs]at hm hagg
   simp only[Bool.false_eq_true,if_false]at hm
   split at hm
   rotate_left
   ·exact hm.elim
   rename_i c hcc
   rw[hcc]at hcs2
   cases hus:(arr.toList.drop off).take n with
   |nil=>rw[hus]at hcs2;simp only[CRs]at hcs2
   |cons u r =>
    rw[hus]at hcs2 hone2
    simp only[CRs]at hcs2
    have hu:arr[off]? = some u:=by
     have h0:((arr.toList.drop off).take n)[0]? = some u:=by rw[hus];rfl
     rw[List.getElem?_take,List.getElem?_drop]at h0
     split at h0
     ·simpa using h0
     ·cases h0
    refine G6 h hd hn (v:=u) ?_ ?_ hm
    ·simp[execOp,ho,Instr.field,hva,run_underlying hund,hfs,asAgg,part,h2,hagg,ho1,hu]
    ·simp only[VR]
     exact⟨hcs2.1,y8.D5 (hone2 u (by simp))⟩
theorem d2x (h:Rel B e w a.tmps σ) (hd : ∀d,o.dst=some d→d<a.tmps.size) (hn:Nx B a σ o K next) {cl:Call} (ho:o.op = .call cl) {k:IntKind} {x y:Th Int} (hargs:cl.args.toList.map (ev σ.tm) = [.one (.att (.int k x)),.one (.att (.int k y))])
  (hb:cl.callee = .builtin .min) (hm:K (.one (.att (.int k fun _=>if y ()<x ()then y ()else x ()))) σ.hp):o.wp P a w next Q:=by
 obtain⟨p,q,hpq,hp1,hq1⟩ : ∃p q,cl.args.toList = [p,q]∧ev σ.tm p = .one (.att (.int k x))∧ev σ.tm q = .one (.att (.int k y)):=by
  match hl:cl.args.toList,hargs with
  |[p,q],hargs=>simp at hargs;exact⟨p,q,rfl,hargs.1,hargs.2⟩
  |[],hargs=>simp at hargs
  |[_],hargs=>simp at hargs
  |_::_::_::_,hargs=>simp at hargs
 have hp:=p6 h p
 have hq:=p6 h q
 rw[hp1]at hp
 rw[hq1]at hq
 obtain⟨vp,rp⟩:=R6 hp
 obtain⟨vq,rq⟩:=R6 hq
 have ha:cl.args.map a.eval = #[.int k (x ()),.int k (y ())]:=by
  apply Array.ext';simp[hpq,vp,vq]
 refine G6 h hd hn (v := .int k (if y ()<x ()then y ()else x ())) ?_ (N2 k (fun _=>if y ()<x ()then y ()else x ()) (by split<;>assumption)) hm
 simp[execOp,ho,resolve,hb,ha,invoke,builtin,Builtin.min_,Builtin.min2]
theorem d2y (h:Rel B e w a.tmps σ) (hd : ∀d,o.dst=some d→d<a.tmps.size) (hn:Nx B a σ o K next) {cl:Call} (ho:o.op = .call cl) {k:IntKind} {x y:Th Int} (hargs:cl.args.toList.map (ev σ.tm) = [.one (.att (.int k x)),.one (.att (.int k y))])
  (hb:cl.callee = .builtin .max) (hm:K (.one (.att (.int k fun _=>if x ()<y ()then y ()else x ()))) σ.hp):o.wp P a w next Q:=by
 obtain⟨p,q,hpq,hp1,hq1⟩ : ∃p q,cl.args.toList = [p,q]∧ev σ.tm p = .one (.att (.int k x))∧ev σ.tm q = .one (.att (.int k y)):=by
  match hl:cl.args.toList,hargs with
  |[p,q],hargs=>simp at hargs;exact⟨p,q,rfl,hargs.1,hargs.2⟩
  |[],hargs=>simp at hargs
  |[_],hargs=>simp at hargs
  |_::_::_::_,hargs=>simp at hargs
 have hp:=p6 h p
 have hq:=p6 h q
 rw[hp1]at hp
 rw[hq1]at hq
 obtain⟨vp,rp⟩:=R6 hp
 obtain⟨vq,rq⟩:=R6 hq
 have ha:cl.args.map a.eval = #[.int k (x ()),.int k (y ())]:=by
  apply Array.ext';simp[hpq,vp,vq]
 refine G6 h hd hn (v := .int k (if x ()<y ()then y ()else x ())) ?_ (N2 k (fun _=>if x ()<y ()then y ()else x ()) (by split<;>assumption)) hm
 simp[execOp,ho,resolve,hb,ha,invoke,builtin,Builtin.max_,Builtin.max2]
theorem c3A (h:Rel B e w a.tmps σ) (hd : ∀d,o.dst=some d→d<a.tmps.size) (hn:Nx B a σ o K next) (hty:TyOk P ctx.ty) (hm:(opM ctx σ.tm o).wp L σ.hp K):o.wp P a w next Q:=by
 cases ho:o.op with
 |move x=>exact c1A h hd hn (.inl ho) (by simpa only[opM,ho,M.wp]using hm)
 |assign x=>exact c1A h hd hn (.inr ho) (by simpa only[opM,ho,M.wp]using hm)
 |pick c x y=>exact d0c h hd hn ho hm
 |alloc T=>exact c6L h hd hn hty ho hm
 |box T x=>exact d2A h hd hn ho hm
 |build T parts=>exact c6K h hd hn hty ho hm
 |buildSlice T n parts=>exact b1A h hd hn hty ho hm
 |makeSlice T x y=>exact b4l h hd hn hty ho hm
 |load T x=>exact d0d h hd hn hty ho hm
 |store T x y=>exact c6F h hd hn hty ho hm
 |nilCheck x=>exact b6G h hd hn ho hm
 |binOp op T x y T'=>exact d2B h hd hn hty ho hm
 |unOp op T x =>
  have hx:=p6 h x
  simp only[opM,ho]at hm
  split at hm
  ·rename_i b hxe
   rw[hxe]at hx
   exact d2v h hd hn ho hx hm
  ·rename_i k n hxe
   rw[hxe]at hx
   exact d2w h hd hn ho hx hm
  ·exact hm.elim
 |convert S T x =>
  have hx:=p6 h x
  simp only[opM,ho]at hm
  split at hm
  ·rename_i kS k kx n hS hT hxe
   rw[hxe]at hx
   obtain⟨inf,z,d,F⟩:=N6 (hty.get (T:=S) (by rw[hS];simp))
   obtain⟨inf',z',d',F'⟩:=N6 (hty.get (T:=T) (by rw[hT];simp))
   have h2:=c8A F'.desc hT
   have h3:=F'.und
   rw[h2]at h3
   exact d0f h hd hn ho F.und h3 hx hm
  ·exact hm.elim
 |makeFunc fn first cap=>exact b6H h hd hn ho hm
 |slice T x lo hi mx=>exact c6G h hd hn hty ho hm
 |fieldAddr T x f=>exact b4m h hd hn hty ho hm
 |indexAddr T x i=>exact c6I h hd hn hty ho hm
 |field T x f=>exact c6J h hd hn hty ho hm
 |extract x i =>
  have hx:=p6 h x
  simp only[opM,ho]at hm
  split at hm
  ·rename_i vs hxe
   rw[hxe]at hx
   split at hm
   ·rename_i v hv
    exact b9d h hd hn ho hx hv hm
   ·exact hm.elim
  ·exact hm.elim
 |call c =>
  simp only[opM,ho]at hm
  split at hm
  ·rename_i b hb
   split at hm
   ·rename_i x T hargs hT
    replace hm:=M.p4 hm
    obtain⟨hs,hm⟩:=hm
    exact d2z h hd hn hty ho hb hargs hT hs hm
   ·rename_i s x T T' hargs hT
    split at hm
    ·subst_vars
     exact c3z h hd hn hty ho hb hargs hT hm
    ·exact hm.elim
   ·rename_i hargs
    split at hm
    ·subst_vars
     exact d2x h hd hn ho hargs hb hm
    ·exact hm.elim
   ·rename_i hargs
    split at hm
    ·subst_vars
     exact d2y h hd hn ho hargs hb hm
    ·exact hm.elim
   ·exact hm.elim
  ·exact hm.elim
 |_=>simp only[opM,ho,M.wp]at hm
theorem b4E {S:Nat→Prop} {v:Value} {x y:A} (h:Rep S w v x) (hm:b9B x y):Rep S w v y:=by
 cases x<;>cases y<;>simp only[b9B]at hm
 ·obtain⟨rfl,hb⟩:=hm
  exact h.same (.int _ _ _ hb.out)
 ·exact h.same (.bool _ _ hm.out)
 ·split at hm
  ·rename_i ht
   subst ht
   exact h.same (.list _ _ _ hm.out)
  ·exact hm.elim
theorem a8z {hp hq:Hp} : ∀(cs ds:List C) (vs:List Value),a1E.matchCaps hp hq cs ds→CRs e hp w vs cs→CRs e hq w vs ds:=by
 intro cs
 induction cs with
 |nil =>
  intro ds vs hm h
  cases ds with
  |nil=>cases vs<;>simp only[CRs]at h ⊢
  |cons _ _=>simp only[a1E.matchCaps]at hm
 |cons c cs ih =>
  intro ds vs hm h
  unfold a1E.matchCaps at hm
  split at hm
  ·contradiction
  ·rename_i k' v' j' cs' k v j ds' heq
   cases heq
   cases vs with
   |nil=>simp only[CRs]at h
   |cons u vs =>
    simp only[CRs,CR]at h ⊢
    obtain⟨⟨rfl,rfl,h1,h2⟩,hm⟩:=hm
    exact⟨⟨by omega,fun _=>h.1.2 h1⟩,ih ds' vs hm h.2⟩
  ·exact hm.elim
def SzLe (hp hq:Hp):Prop:=(∀k sz,(hq.get k).2.size? = some sz→(hp.get k).2.size? = some sz) ∧ ∀k g (t:RT) (l:Th (List t.ty)),(hq.get k).2 = .row true g t l → ∃g',(hp.get k).2 = .row true g' t l
theorem a8i : ∀(xs ys:List (Th Int×Nat)),b0p xs ys→xs=ys
 |[],[],_=>rfl
 |(x,j)::xs,(y,j')::ys,h=>by
  obtain⟨h1,h2,h3⟩:=h
  have h2':x=y:=funext fun _=>h2.out
  simp only at h1
  rw[h1,h2',a8i xs ys h3]
 |[],_::_,h=>h.elim
 |_::_,[],h=>h.elim
theorem a2G {hp hq:Hp} (hsz:SzLe hp hq) {v:Value} {c d:C} (h:CR e hp w v c) (hm:a1E hp hq c d):CR e hq w v d:=by
 unfold a1E at hm
 split at hm
 ·simp only[CR]
 ·split at hm
  ·simp only[CR]at h ⊢
   exact b4E h hm
  ·split at hm
   ·simp only[CR]at h ⊢
    rw[h]
    exact .nil _ _ hm.out
   ·exact hm.elim
  ·exact hm.elim
 ·split at hm
  ·simpa only[CR]using h
  ·exact hm.elim
 ·split at hm
  ·obtain⟨rfl,h1,h2⟩:=hm
   simp only[CR]at h ⊢
   exact⟨by omega,fun _=>h.2 h1⟩
  ·exact hm.elim
 ·split at hm
  ·obtain⟨rfl,rfl,h1,h2⟩:=hm
   simp only[CR]at h ⊢
   exact⟨by omega,fun _=>h.2 h1⟩
  ·exact hm.elim
 ·split at hm
  ·obtain⟨rfl,rfl,h1,h2,hp1,hp2,h3⟩:=hm
   rw[List.isEmpty_iff]at hp1 hp2
   subst hp1
   subst hp2
   simp only[CR]at h ⊢
   refine⟨by omega,fun _ => ?_⟩
   obtain⟨b,len,cap,g1,g2,g3,g4⟩:=h.2 h1
   have e3:=h3.out
   (try simp only at e3)
   rw[e3]at g2 g3 g4
   exact⟨b,len,cap,g1,g2,g3,fun sz hs=>g4 sz (hsz.1 _ sz hs)⟩
  ·exact hm.elim
 ·split at hm
  ·obtain⟨rfl,rfl,h1,h2,h3,h4,h5,h6⟩:=hm
   have e5:=a8i _ _ h5
   subst e5
   have e6 : ∀(x y:Th Int),(Ob fun _=>x ()=y ())→x=y:=fun x y h=>funext fun _=>h.out
   have e6':=e6 _ _ h6
   subst e6'
   simp only[CR]at h ⊢
   refine⟨by omega,fun _ => ?_⟩
   obtain⟨g1,g2⟩:=h.2 h1
   refine⟨?_,fun t l hr => ?_⟩
   ·revert h4
    generalize (hq.get _).2=x
    intro h4
    cases x with
    |row=>simp only[Ch.gen]at h4;simp only[b8o];omega
    |hole=>simp only[Ch.gen]at h4;simp only[b8o];omega
    |_=>trivial
   ·obtain⟨g',hg'⟩:=hsz.2 _ _ _ _ hr
    rw[hg']at h3
    simp only[Ch.gen]at h3
    subst h3
    exact g2 t l hg'
  ·exact hm.elim
 ·split at hm
  ·obtain⟨rfl,hm⟩:=hm
   simp only[CR]at h ⊢
   obtain⟨vs,h1,h2⟩:=h
   exact⟨vs,h1,a8z _ _ _ hm h2⟩
  ·exact hm.elim
 ·split at hm
  ·split at hm
   ·rename_i ht
    subst ht
    obtain⟨h1,h2,rfl⟩:=hm
    simp only[CR]at h ⊢
    obtain⟨b,off,cap,g1,g2,g3,g4⟩:=h
    have e1:=h1.out
    have e2:=h2.out
    simp only at e1 e2
    rw[e2]at g2 g3 g4
    rw[e1]at g1 g3
    exact⟨b,off,cap,g1.same (.list _ _ _ e1),g2,g3,g4⟩
   ·exact hm.elim
  ·exact hm.elim
 ·exact hm.elim
theorem b9A {hp hq:Hp} {v:Value} {c d:C} (h1:y8 c v) (hm:a1E hp hq c d):y8 d v:=by
 cases d with
 |unk=>trivial
 |_ =>
  cases c with
  |unk=>(try simp only[a1E]at hm)<;>(first|exact hm.elim|(split at hm<;>exact hm.elim))
  |_=>exact h1
theorem a4G {hp hq:Hp} (hsz:SzLe hp hq) : ∀(cs ds:List C) (vs:List Value),Q4 hp hq cs ds→CRs e hp w vs cs→CRs e hq w vs ds
 |[],[],vs,_,h=>by cases vs<;>simp only[CRs]at h ⊢
 |c::cs,d::ds,vs,hm,h=>by
  cases vs with
  |nil=>simp only[CRs]at h
  |cons u vs =>
   simp only[CRs]at h ⊢
   simp only[Q4]at hm
   exact⟨a2G hsz h.1 hm.1,a4G hsz cs ds vs hm.2 h.2⟩
 |[],_::_,_,hm,_=>by simp only[Q4]at hm
 |_::_,[],_,hm,_=>by simp only[Q4]at hm
theorem a0O {hp hq:Hp} : ∀(cs ds:List C),Q4 hp hq cs ds→cs.length=ds.length
 |[],[],_=>rfl
 |_::cs,_::ds,hm=>by
  simp only[Q4]at hm
  simp[a0O cs ds hm.2]
 |[],_::_,hm=>by simp only[Q4]at hm
 |_::_,[],hm=>by simp only[Q4]at hm
theorem a6r {hp hq:Hp} (hsz:SzLe hp hq) {v:Value} {x y:V} (h:VR e hp w v x) (hm:b0o hp hq x y):VR e hq w v y:=by
 unfold b0o at hm
 split at hm
 ·simp only[VR,CR,y8]
  exact⟨trivial,trivial⟩
 ·split at hm
  ·simp only[VR]at h ⊢
   exact⟨a2G hsz h.1 hm,b9A h.2 hm⟩
  ·exact hm.elim
 ·split at hm
  ·simp only[VR]at h ⊢
   obtain⟨arr,h1,h2,h3⟩:=h
   exact⟨arr,h1,a4G hsz _ _ _ hm h2,h3⟩
  ·exact hm.elim
 ·split at hm
  ·split at hm
   ·simp only[VR]at h ⊢
    obtain⟨arr,h1,h2⟩:=h
    refine⟨arr,h1,?_⟩
    revert h2
    generalize arr.toList=l
    intro h2
    cases l with
    |nil=>simp only[VRs]
    |cons _ _=>simp only[VRs]at h2
   ·exact hm.elim
  ·exact hm.elim
theorem a1n {hp hq:Hp} : ∀(u t:Tr V),a1o hp hq t u → ∀k,b0o hp hq (t.get k) (u.get k)
 | .leaf,t,_,k=>by simp only[Tr.get];trivial
 | .node u l r,t,hm,k=>by
  have hm':b0o hp hq t.val u∧a1o hp hq t.lt l∧a1o hp hq t.rt r:=by
   cases t<;>simpa only[a1o]using hm
  cases k with
  |zero=>rw[Tr.a3K,Tr.a3K];exact hm'.1
  |succ k =>
   rw[Tr.P6,Tr.P6]
   split
   ·exact a1n l _ hm'.2.1 _
   ·exact a1n r _ hm'.2.2 _
theorem M3 {hp hq:Hp} : ∀(u t:Hp),Z2 hp hq t u → ∀k,D6 hp hq (t.get k).2 (u.get k).2
 | .leaf,.leaf,_,k=>by simp only[Tr.get];trivial
 | .leaf,.node e l r,hm,k=>by
  simp only[Z2]at hm
  cases k with
  |zero=>exact hm.1
  |succ k =>
   rw[Tr.P6]
   have h1:=M3 .leaf l hm.2.1 (k / 2)
   have h2:=M3 .leaf r hm.2.2 (k / 2)
   simp only[Tr.get,Tr.lt,Tr.rt]at h1 h2 ⊢
   split
   ·exact h1
   ·exact h2
 | .node e l r,t,hm,k=>by
  have hm':D6 hp hq t.val.2 e.2∧Z2 hp hq t.lt l∧Z2 hp hq t.rt r:=by
   cases t<;>simpa only[Z2]using hm
  cases k with
  |zero=>rw[Tr.a3K,Tr.a3K];exact hm'.1
  |succ k =>
   rw[Tr.P6,Tr.P6]
   split
   ·exact M3 l _ hm'.2.1 _
   ·exact M3 r _ hm'.2.2 _
theorem b4D {hp hq:Hp} {c d:Ch} (h:D6 hp hq c d) {sz:Nat} (hs:d.size? = some sz):c.size? = some sz:=by
 cases d with
 |row dp g t l =>
  cases c with
  |row dp' g' t' l' =>
   simp only[D6]at h
   split at h
   ·rename_i ht
    subst ht
    exact hs
   ·exact h.2.elim
  |_=>simp only[D6]at h
 |ro t l =>
  cases c with
  |ro t' l' =>
   simp only[D6]at h
   split at h
   ·rename_i ht
    subst ht
    exact hs
   ·exact h.elim
  |_=>simp only[D6]at h
 |hole=>simp only[D6]at h
 |_=>cases hs
theorem b1C {hp hq:Hp} (hsz:SzLe hp hq) {k:Nat} {c d:Ch} (h:ChR e hp w k c) (hm:D6 hp hq c d):ChR e hq w k d:=by
 cases d with
 |dead=>trivial
 |var bx ds =>
  cases c with
  |var bx' cs =>
   simp only[D6]at hm
   obtain⟨b,off,arr,T,h1,h2,h3,h4,h5⟩:=h
   have hl:=a0O _ _ hm.2.2
   refine⟨b,off,arr,T,h1,h2,h3,by rw[←hl];exact h4,fun j d hd => ?_⟩
   have hj:j<cs.length:=by
    rw[hl]
    exact(List.getElem?_eq_some_iff.1 hd).1
   obtain⟨v,g1,g2,g3⟩:=h5 j _ (List.getElem?_eq_getElem hj)
   refine⟨v,g1,a2G hsz g2 ?_,g3⟩
   have : ∀(cs ds:List C),Q4 hp hq cs ds → ∀(j:Nat) (c d:C),cs[j]? = some c→ds[j]? = some d→a1E hp hq c d:=by
    intro cs
    induction cs with
    |nil=>intro ds _ j c d hc;simp at hc
    |cons c0 cs ih =>
     intro ds hm j c d hc hd
     cases ds with
     |nil=>simp at hd
     |cons d0 ds =>
      simp only[Q4]at hm
      cases j with
      |zero=>simp at hc hd;subst hc;subst hd;exact hm.1
      |succ j=>exact ih ds hm.2 j c d (by simpa using hc) (by simpa using hd)
   exact this _ _ hm.2.2 j _ _ (List.getElem?_eq_getElem hj) hd
  |_=>simp only[D6]at hm
 |row dp g t l =>
  cases c with
  |row dp' g' t' l' =>
   simp only[D6]at hm
   obtain⟨rfl,hm⟩:=hm
   split at hm
   ·rename_i ht
    subst ht
    have:l'=l:=funext fun _=>hm.out
    subst this
    cases dp<;>exact h
   ·exact hm.elim
  |_=>simp only[D6]at hm
 |ro t l =>
  cases c with
  |ro t' l' =>
   simp only[D6]at hm
   split at hm
   ·rename_i ht
    subst ht
    have:l'=l:=funext fun _=>hm.out
    subst this
    exact h
   ·exact hm.elim
  |_=>simp only[D6]at hm
 |hole=>simp only[D6]at hm
theorem a1D {tmps:Array Value} (h:Rel B e w tmps σ) (hm:l8 σ τ):Rel B e w tmps τ := by
 obtain⟨h1,h2,h3⟩:=hm
 have hsz:SzLe σ.hp τ.hp:=⟨fun k sz hs=>b4D (M3 _ _ h2 k) hs,fun k g t l hr=>by
  have:=M3 _ _ h2 k
  rw[hr]at this
  revert this
  generalize (σ.hp.get k).2=x
  intro this
  cases x with
  |row dp' g' t' l' =>
   simp only[D6]at this
   obtain⟨rfl,hm⟩:=this
   split at hm
   ·rename_i ht
    subst ht
    have hl:l'=l:=funext fun _=>hm.out
    subst hl
    exact⟨g',rfl⟩
   ·exact hm.elim
  |_=>simp only[D6]at this⟩
 refine⟨⟨fun k=>b1C hsz (h.hr.chs k) (M3 _ _ h2 k),h.hr.sOk,h.hr.oOk⟩,
  ⟨h.fr.os,h.fr.tape,h.fr.output,h.fr.sNew,h.fr.size,h.fr.old,fun b k off n hb => ?_⟩,?_,fun t=>a6r hsz (h.tm t) (a1n _ _ h1 t)⟩
 ·obtain⟨g1,g2,⟨cs,g3,g4⟩,g5⟩:=h.fr.box b k off n hb
  refine⟨g1,g2,?_,g5⟩
  have:=M3 _ _ h2 k
  rw[g3]at this
  cases hd:(τ.hp.get k).2 with
  |var bx ds =>
   rw[hd]at this
   simp only[D6]at this
   obtain⟨t1,t2,t3⟩:=this
   subst t1
   exact⟨ds,rfl,by rw[←g4.1];exact(a0O _ _ t3).symm,fun o ho=>(g4.2 o ho).keep t2⟩
  |dead=>rw[hd]at this;simp only[D6]at this
  |_=>rw[hd]at this;simp only[D6]at this
 ·have : ∀(ts us:List (Tr V)) (as:List (Array Value)),a4m σ.hp τ.hp ts us→UpR e σ.hp w as ts→UpR e τ.hp w as us:=by
   intro ts
   induction ts with
   |nil =>
    intro us as hm hu
    cases us with
    |nil=>cases as with
     |nil=>trivial
     |cons _ _=>exact hu.elim
    |cons _ _=>simp only[a4m]at hm
   |cons t ts ih =>
    intro us as hm hu
    cases us with
    |nil=>simp only[a4m]at hm
    |cons u us =>
     simp only[a4m]at hm
     cases as with
     |nil=>exact hu.elim
     |cons a as=>exact⟨fun i=>a6r hsz (hu.1 i) (a1n _ _ hm.1 i),ih us as hm.2 hu.2⟩
  exact this _ _ _ h3 h.up
end
end Go.Sx
namespace Go.Sx
section
variable {P:Program} {ctx:Ctx} {B:Base} {e:Env} {a:Act} {w w':World} {σ τ : St} {o:Oper} {Q:Exit→Act→World→Prop} {L:Locks} {hp:Hp}
def enters (P : Program) (f : Nat) : Prop := ∃ fn c, P.funcs[f]? = some fn ∧ (fn.name == "runtime.NumGoroutine") = false ∧ fn.body = some c
theorem b3Y {f:Nat} (h:enters P f) (args:Array Value):(callFunc f args).run P w = .ok (.enter f args) w:=by
 obtain⟨fn,c,h1,h2,h3⟩:=h
 have h2' : ¬ (fn.name = "runtime.NumGoroutine") := by simpa using h2
 simp[callFunc,h1,h2',h3]
def a6O (B:Base) (K:V→St→Prop) (tmps:Array Value) (en:Ending) (w':World):Prop := ∃v x e' σ',en = .returned v∧K x σ'∧Rel B e' w' tmps σ'∧VR e' σ'.hp w' v x
def ClOk (P:Program) (cl:CallT):Prop := ∀key f args σ K,cl key f args σ K→enters P f ∧ ∀B e w tmps vals,Rel B e w tmps σ → VRs e σ.hp w vals args→Calls P f vals.toArray w (a6O B K tmps)
theorem d1x {l:List Operand} (h:Rel B e w a.tmps σ):VRs e σ.hp w (l.map a.eval) (l.map (ev σ.tm)):=by
 induction l with
 |nil=>simp only[List.map_nil,VRs]
 |cons x l ih=>simp only[List.map_cons,VRs];exact⟨p6 h x,ih⟩
theorem c0z {us vs:List Value} {xs ys:List V} (h:VRs e hp w us xs) (h':VRs e hp w vs ys):VRs e hp w (us++vs) (xs++ys):=by
 induction us generalizing xs with
 |nil=>cases xs with
  |nil=>exact h'
  |cons _ _=>simp only[VRs]at h
 |cons u us ih=>cases xs with
  |nil=>simp only[VRs]at h
  |cons x xs =>
   simp only[VRs,List.cons_append]at *
   exact⟨h.1,ih h.2⟩
def Nk (B:Base) (a:Act) (o:Oper) (K:V→St→Prop) (next:Act→World→Prop):Prop :=
 ∀v x σ' e' w',K x σ'→Rel B e' w' (a.put o.dst v).tmps ⟨putV σ'.tm o.dst x,σ'.hp,σ'.up⟩→next (a.put o.dst v) w'
theorem b8p : ∀(cs:List C) (vs:List Value),b1m hp cs=true→CRs e hp w vs cs→VRs e hp w vs (cs.map V.one)
 |[],vs,_,h=>by cases vs<;>simp only[CRs,List.map_nil,VRs]at h ⊢
 |c::cs,vs,hk,h=>by
  unfold b1m at hk
  split at hk
  ·contradiction
  ·rename_i k v j cs' heq
   cases heq
   simp only[Bool.and_eq_true,beq_iff_eq]at hk
   cases vs with
   |nil=>simp only[CRs]at h
   |cons u vs =>
    simp only[CRs]at h
    simp only[List.map_cons,VRs]
    refine⟨?_,b8p cs vs hk.2 h.2⟩
    simp only[VR]
    refine⟨h.1,?_⟩
    have hc:=h.1
    simp only[CR]at hc
    obtain⟨b,off,_,hu⟩:=hc.2 hk.1
    rw[hu]
    exact y8.D5 rfl
  ·cases hk
theorem c3C {cl:CallT} (hcl:ClOk P cl) {K:V→St→Prop} {next:Act→World→Prop} (h:Rel B e w a.tmps σ) (hd : ∀d,o.dst=some d→d<a.tmps.size) (hn:Nk B a o K next) (hty:TyOk P ctx.ty) (hm:opK ctx L cl o σ K):o.wp P a w next Q:=by
 have plain:(opM ctx σ.tm o).wp L σ.hp (fun v hp=>K v ⟨σ.tm,hp,σ.up⟩)→o.wp P a w next Q:=fun hm =>
  c3A h hd (fun v x hp' e' w' hK hr=>hn v x ⟨σ.tm,hp',σ.up⟩ e' w' hK hr) hty hm
 unfold opK at hm
 split at hm
 ·rename_i c ho
  split at hm
  ·rename_i f hf
   split at hm
   ·rename_i g caps hfe
    have hfv:=p6 h f
    rw[hfe]at hfv
    simp only[VR,CR]at hfv
    obtain⟨⟨vs,hv,hcs⟩,_⟩:=hfv
    split at hm
    ·rename_i hck
     obtain⟨hen,hcall⟩:=hcl _ _ _ _ _ hm
     have hargs:=c0z (d1x (l:=c.args.toList) h) (b8p _ _ hck hcs)
     have hC:=hcall B e w a.tmps _ h hargs
     unfold Oper.wp
     have hr:(execOp a.eval o).run P w = .ok (.enter g (c.args.toList.map a.eval++vs.toList).toArray) w:=by
      have h1:=b3Y (w:=w) hen (c.args.map a.eval++vs)
      have h2:(c.args.toList.map a.eval++vs.toList).toArray=c.args.map a.eval++vs:=by apply Array.ext';simp
      rw[h2]
      simp[execOp,ho,resolve,hf,hv,Deferred.ofValue,invoke,h1]
     rw[hr,Oper.upon_enter]
     refine hC.mono fun en w' hp => ?_
     obtain⟨v,x,e',σ',rfl,hK,hr',hv'⟩:=hp
     exact hn v x σ' e' w' hK (hr'.a3s hv' hd)
    ·exact hm.elim
   ·exact hm.elim
  ·exact plain hm
 ·exact plain hm
theorem c0d {n:Nat} {d:Option Nat} (h:a4J n d=true) : ∀x,d=some x→x<n:=by
 intro x hx
 subst hx
 simpa [a4J]using h
theorem b3z {v:Value} {b:Bool} {s:SB} (hs:s.val=b) (h:VR e hp w v (.one (.att (.bool s)))):v = .bool b:=by
 rw[a0w h,hs]
theorem b7G {ops:Array Oper} (h:Rel B e w a.tmps σ):match guardOf ops.toList σ.tm o with
  | .yes=>Region.wanted o (yielded ops a.tmps)=true
  | .no=>Region.wanted o (yielded ops a.tmps)=false
  | .bad=>True:=by
 have tmp : ∀(d:Nat) (b:Bool),a.tmps.getD d undef = .bool b→a.tmps[d]? = some (.bool b):=fun d b hd=>by
  rw[Array.getD_eq_getD_getElem?]at hd
  cases hx:a.tmps[d]? with
  |none=>rw[hx]at hd;cases hd
  |some v=>rw[hx]at hd;rw[←hd];rfl
 unfold guardOf
 cases hg:o.guard with
 |none=>simp[Region.wanted,hg]
 |some jw =>
  obtain⟨j,want⟩:=jw
  simp only
  cases ho:ops.toList[j]? with
  |none=>trivial
  |some oj =>
   simp only
   cases hdd:oj.dst with
   |none=>trivial
   |some d =>
    simp only
    have ho':ops[j]? = some oj:=by simpa using ho
    have hv:=h.tm d
    split
    ·rename_i hb
     split at hb
     ·rename_i hx
      rw[hx]at hv
      have:=tmp d true (b3z rfl hv)
      simp[Region.wanted,hg,yielded,ho',hdd,this]
      split at hb<;>simp_all
     ·rename_i hx
      rw[hx]at hv
      have:=tmp d false (b3z rfl hv)
      simp[Region.wanted,hg,yielded,ho',hdd,this]
      split at hb<;>simp_all
     ·cases hb
     ·cases hb
    ·rename_i hb
     split at hb
     ·rename_i hx
      rw[hx]at hv
      have:=tmp d true (b3z rfl hv)
      simp[Region.wanted,hg,yielded,ho',hdd,this]
      split at hb<;>simp_all
     ·rename_i hx
      rw[hx]at hv
      have:=tmp d false (b3z rfl hv)
      simp[Region.wanted,hg,yielded,ho',hdd,this]
      split at hb<;>simp_all
     ·rename_i hx
      rw[hx]at hv
      simp only[VR]at hv
      obtain⟨arr,hu,_⟩:=hv
      have hy:yielded ops a.tmps j=none:=by
       unfold yielded
       rw[ho']
       simp only[Option.bind_some,hdd]
       rw[Array.getD_eq_getD_getElem?]at hu
       cases hx:a.tmps[d]? with
       |none=>rfl
       |some v =>
        rw[hx]at hu
        simp only[Option.getD_some]at hu
        rw[hu]
      simp[Region.wanted,hg,hy]
     ·cases hb
    ·trivial
end
end Go.Sx
namespace Go.Sx
section
variable {P:Program} {ctx:Ctx} {B:Base} {e:Env} {a:Act} {w w':World} {σ τ : St} {o:Oper} {Q:Exit→Act→World→Prop} {L:Locks} {hp:Hp} {cl:CallT}
theorem M.wp_mono {α : Type} : ∀(m:M α) {L:Locks} {h:Hp} {K K' : α → Hp→Prop},(∀a h',K a h'→K' a h')→m.wp L h K→m.wp L h K'
 | .ret a,_,_,_,_,hk,hm=>hk _ _ hm
 | .get k f,L,h,_,_,hk,hm=>by
  simp only[M.wp]at *
  split
  ·rename_i hc;rw[if_pos hc]at hm;exact hm
  ·rename_i hc;rw[if_neg hc]at hm;exact M.wp_mono (f (h.get k)) hk hm
 | .set k e m,L,h,_,_,hk,hm=>by
  simp only[M.wp]at *
  split
  ·rename_i hc;rw[if_pos hc]at hm;exact hm
  ·rename_i hc
   rw[if_neg hc]at hm
   split
   ·rename_i hc;rw[if_pos hc]at hm;exact hm
   ·rename_i hc
    rw[if_neg hc]at hm
    split
    ·rename_i hc;rw[if_pos hc]at hm;exact M.wp_mono m hk hm
    ·rename_i hc;rw[if_neg hc]at hm;exact hm
 | .asrt p m,_,_,_,_,hk,hm=>⟨hm.1,M.wp_mono m hk hm.2⟩
 | .asm p m,_,_,_,_,hk,hm=>fun hp=>M.wp_mono m hk (hm hp)
 | .all β f,_,_,_,_,hk,hm=>fun x=>M.wp_mono (f x) hk (hm x)
 | .fork b t e,_,_,_,_,hk,hm=>⟨fun hb=>M.wp_mono t hk (hm.1 hb),fun hb=>M.wp_mono e hk (hm.2 hb)⟩
 | .fail,_,_,_,_,_,hm=>hm
theorem M.a3e {α : Type} : ∀(m:M α) {L:Locks} {h:Hp} {K K' : α → Hp→Prop},m.wp L h K→m.wp L h K'→m.wp L h fun a h'=>K a h'∧K' a h'
 | .ret a,_,_,_,_,h1,h2=>⟨h1,h2⟩
 | .get k f,L,h,_,_,h1,h2=>by
  simp only[M.wp]at *
  split
  ·rename_i hc;rw[if_pos hc]at h1;exact h1
  ·rename_i hc;rw[if_neg hc]at h1 h2;exact M.a3e (f (h.get k)) h1 h2
 | .set k e m,L,h,_,_,h1,h2=>by
  simp only[M.wp]at *
  split
  ·rename_i hc;rw[if_pos hc]at h1;exact h1
  ·rename_i hc
   rw[if_neg hc]at h1 h2
   split
   ·rename_i hc;rw[if_pos hc]at h1;exact h1
   ·rename_i hc
    rw[if_neg hc]at h1 h2
    split
    ·rename_i hc;rw[if_pos hc]at h1 h2;exact M.a3e m h1 h2
    ·rename_i hc;rw[if_neg hc]at h1;exact h1
 | .asrt p m,_,_,_,_,h1,h2=>⟨h1.1,M.a3e m h1.2 h2.2⟩
 | .asm p m,_,_,_,_,h1,h2=>fun hp=>M.a3e m (h1 hp) (h2 hp)
 | .all β f,_,_,_,_,h1,h2=>fun x=>M.a3e (f x) (h1 x) (h2 x)
 | .fork b t e,_,_,_,_,h1,h2=>⟨fun hb=>M.a3e t (h1.1 hb) (h2.1 hb),fun hb=>M.a3e e (h1.2 hb) (h2.2 hb)⟩
 | .fail,_,_,_,_,h1,_=>h1
def Locks.le (L L':Locks):Prop:=(∀k,L.rd.contains k=true→L'.rd.contains k=true)∧(∀k,L.fl.contains k=true→L'.fl.contains k=true)
theorem M.M6 {α : Type} : ∀(m:M α) {L L':Locks} {h:Hp} {K : α → Hp→Prop},L.le L'→m.wp L' h K→m.wp L h K
 | .ret a,_,_,_,_,_,hm=>hm
 | .get k f,L,L',h,_,hl,hm=>by
  simp only[M.wp]at *
  split at hm
  ·exact hm.elim
  ·rename_i hc
   rw[if_neg (fun h=>hc (hl.2 k h))]
   exact M.M6 (f (h.get k)) hl hm
 | .set k e m,L,L',h,_,hl,hm=>by
  simp only[M.wp]at *
  split at hm
  ·exact hm.elim
  ·rename_i hc
   rw[if_neg (fun h=>hc (hl.1 k h))]
   split at hm
   ·exact hm.elim
   ·rename_i hc
    rw[if_neg (fun h=>hc (hl.2 k h))]
    split at hm
    ·rename_i hc;rw[if_pos hc];exact M.M6 m hl hm
    ·exact hm.elim
 | .asrt p m,_,_,_,_,hl,hm=>⟨hm.1,M.M6 m hl hm.2⟩
 | .asm p m,_,_,_,_,hl,hm=>fun hp=>M.M6 m hl (hm hp)
 | .all β f,_,_,_,_,hl,hm=>fun x=>M.M6 (f x) hl (hm x)
 | .fork b t e,_,_,_,_,hl,hm=>⟨fun hb=>M.M6 t hl (hm.1 hb),fun hb=>M.M6 e hl (hm.2 hb)⟩
 | .fail,_,_,_,_,_,hm=>hm
theorem M.a7L {α : Type} {k:Nat} : ∀(m:M α) {L:Locks} {h:Hp} {K : α → Hp→Prop},L.rd.contains k=true→m.wp L h K→m.wp L h fun a h'=>h'.get k=h.get k∧K a h'
 | .ret a,_,_,_,_,hm=>⟨rfl,hm⟩
 | .get j f,L,h,_,hl,hm=>by
  simp only[M.wp]at *
  split at hm
  ·exact hm.elim
  ·rename_i hc
   rw[if_neg hc]
   exact M.a7L (f (h.get j)) hl hm
 | .set j e m,L,h,_,hl,hm=>by
  simp only[M.wp]at *
  split at hm
  ·exact hm.elim
  ·rename_i hc
   rw[if_neg hc]
   split at hm
   ·exact hm.elim
   ·rename_i hc2
    rw[if_neg hc2]
    split at hm
    ·rename_i hc3
     rw[if_pos hc3]
     have hne:k≠j:=fun he=>hc (he▸hl)
     refine M.wp_mono m (fun a h' hh=>⟨?_,hh.2⟩) (M.a7L m hl hm)
     rw[hh.1,Tr.j7 _ _ hne]
    ·exact hm.elim
 | .asrt p m,_,_,_,hl,hm=>⟨hm.1,M.a7L m hl hm.2⟩
 | .asm p m,_,_,_,hl,hm=>fun hp=>M.a7L m hl (hm hp)
 | .all β f,_,_,_,hl,hm=>fun x=>M.a7L (f x) hl (hm x)
 | .fork b t e,_,_,_,hl,hm=>⟨fun hb=>M.a7L t hl (hm.1 hb),fun hb=>M.a7L e hl (hm.2 hb)⟩
 | .fail,_,_,_,_,hm=>hm
theorem M.a7M {α : Type} {k:Nat} {x:Nat×Ch} : ∀(m:M α) {L:Locks} {h:Hp} {K : α → Hp→Prop},L.fl.contains k=true→m.wp L (h.set k x) K→m.wp L h fun a h'=>h'.get k=h.get k∧K a (h'.set k x)
 | .ret a,_,_,_,_,hm=>⟨rfl,hm⟩
 | .get j f,L,h,_,hl,hm=>by
  simp only[M.wp]at *
  split at hm
  ·exact hm.elim
  ·rename_i hc
   rw[if_neg hc]
   have hne:j≠k:=fun he=>hc (he▸hl)
   rw[Tr.j7 _ _ hne]at hm
   exact M.a7M (f (h.get j)) hl hm
 | .set j e m,L,h,_,hl,hm=>by
  simp only[M.wp]at *
  split at hm
  ·exact hm.elim
  ·rename_i hc
   rw[if_neg hc]
   split at hm
   ·exact hm.elim
   ·rename_i hc2
    rw[if_neg hc2]
    have hne:j≠k:=fun he=>hc2 (he▸hl)
    rw[Tr.j7 _ _ hne]at hm
    split at hm
    ·rename_i hc3
     rw[if_pos hc3]
     rw[Tr.set_comm h _ _ hne]at hm
     refine M.wp_mono m (fun a h' hh=>⟨?_,hh.2⟩) (M.a7M m hl hm)
     rw[hh.1,Tr.j7 _ _ (Ne.symm hne)]
    ·exact hm.elim
 | .asrt p m,_,_,_,hl,hm=>⟨hm.1,M.a7M m hl hm.2⟩
 | .asm p m,_,_,_,hl,hm=>fun hp=>M.a7M m hl (hm hp)
 | .all β f,_,_,_,hl,hm=>fun x=>M.a7M (f x) hl (hm x)
 | .fork b t e,_,_,_,hl,hm=>⟨fun hb=>M.a7M t hl (hm.1 hb),fun hb=>M.a7M e hl (hm.2 hb)⟩
 | .fail,_,_,_,_,hm=>hm
theorem M.N9 {α : Type} : ∀(m:M α) {L:Locks} {h:Hp} {K K' : α → Hp→Locks→Prop},(∀a h' T,K a h' T→K' a h' T)→m.wpT L h K→m.wpT L h K'
 | .ret a,_,_,_,_,hk,hm=>hk _ _ _ hm
 | .get k f,L,h,_,_,hk,hm=>by
  simp only[M.wpT]at *
  split at hm
  ·exact hm.elim
  ·rename_i hc;rw[if_neg hc];exact M.N9 (f (h.get k)) (fun _ _ _=>hk _ _ _) hm
 | .set k e m,L,h,_,_,hk,hm=>by
  simp only[M.wpT]at *
  split at hm
  ·exact hm.elim
  ·rename_i hc
   rw[if_neg hc]
   split at hm
   ·exact hm.elim
   ·rename_i hc
    rw[if_neg hc]
    split at hm
    ·rename_i hc;rw[if_pos hc];exact M.N9 m (fun _ _ _=>hk _ _ _) hm
    ·exact hm.elim
 | .asrt p m,_,_,_,_,hk,hm=>⟨hm.1,M.N9 m hk hm.2⟩
 | .fork b t e,_,_,_,_,hk,hm=>⟨fun hb=>M.N9 t hk (hm.1 hb),fun hb=>M.N9 e hk (hm.2 hb)⟩
 | .asm p m,_,_,_,_,_,hm=>hm
 | .all β f,_,_,_,_,_,hm=>hm
 | .fail,_,_,_,_,_,hm=>hm
theorem M.X6 {α : Type} : ∀(m:M α) {L:Locks} {h:Hp} {K : α → Hp→Locks→Prop} {K' : α → Hp→Prop},(∀a h' T,K a h' T→K' a h')→m.wpT L h K→m.wp L h K'
 | .ret a,_,_,_,_,hk,hm=>hk _ _ _ hm
 | .get k f,L,h,_,_,hk,hm=>by
  simp only[M.wpT,M.wp]at *
  split at hm
  ·exact hm.elim
  ·rename_i hc;rw[if_neg hc];exact M.X6 (f (h.get k)) (fun _ _ _=>hk _ _ _) hm
 | .set k e m,L,h,_,_,hk,hm=>by
  simp only[M.wpT,M.wp]at *
  split at hm
  ·exact hm.elim
  ·rename_i hc
   rw[if_neg hc]
   split at hm
   ·exact hm.elim
   ·rename_i hc
    rw[if_neg hc]
    split at hm
    ·rename_i hc;rw[if_pos hc];exact M.X6 m (fun _ _ _=>hk _ _ _) hm
    ·exact hm.elim
 | .asrt p m,_,_,_,_,hk,hm=>⟨hm.1,M.X6 m hk hm.2⟩
 | .fork b t e,_,_,_,_,hk,hm=>⟨fun hb=>M.X6 t hk (hm.1 hb),fun hb=>M.X6 e hk (hm.2 hb)⟩
 | .asm p m,_,_,_,_,_,hm=>hm.elim
 | .all β f,_,_,_,_,_,hm=>hm.elim
 | .fail,_,_,_,_,_,hm=>hm
theorem Locks.le_refl (L:Locks):L.le L:=⟨fun _ h=>h,fun _ h=>h⟩
theorem Locks.b4H (L T:Locks):L.le (L.add T):=⟨fun k h=>by simp only[Locks.add,List.contains_iff_mem,List.mem_append]at *;exact .inr h,fun k h=>by simp only[Locks.add,List.contains_iff_mem,List.mem_append]at *;exact .inr h⟩
theorem M.comm {α β : Type} (m2:M β) : ∀(m1:M α) {L1 L2:Locks} {h:Hp} {K : α → β → Hp→Locks→Prop},m1.wpT L1 h (fun a h1 T=>m2.wp (L2.add T) h1 (fun b h2=>K a b h2 T)) →
  m2.wp L2 h fun b h2=>m1.wpT L1 h2 (fun a h3 T=>K a b h3 T)
 | .ret a,L1,L2,h,K,hm=>by
  simp only[M.wpT]at *
  exact M.wp_mono m2 (fun b h2 hh=>hh) (M.M6 m2 (L2.b4H _) hm)
 | .get k f,L1,L2,h,K,hm=>by
  simp only[M.wpT]at *
  split at hm
  ·exact hm.elim
  ·rename_i hc
   have hm':=M.comm m2 (f (h.get k)) (L1:=L1) (L2:=L2.add ⟨[k],[]⟩) (h:=h) (K:=fun a b h2 T=>K a b h2 ⟨k::T.rd,T.fl⟩) (M.N9 _ (fun a h1 T hh=>M.M6 m2 ⟨fun j hj=>by
    simp only[Locks.add,List.contains_iff_mem,List.mem_append,List.mem_cons,List.not_mem_nil,or_false]at *
    rcases hj with hj|hj|hj
    ·exact .inl (.inr hj)
    ·exact .inl (.inl hj)
    ·exact .inr hj,fun j hj=>by simpa [Locks.add]using hj⟩ hh) hm)
   refine M.wp_mono m2 (fun b h2 hh => ?_) (M.M6 m2 (L2.b4H _) (M.a7L (k:=k) m2 (by simp[Locks.add]) hm'))
   rw[if_neg hc,hh.1]
   exact hh.2
 | .set k e m,L1,L2,h,K,hm=>by
  simp only[M.wpT]at *
  split at hm
  ·exact hm.elim
  ·rename_i hc
   split at hm
   ·exact hm.elim
   ·rename_i hc2
    split at hm
    ·rename_i hc3
     have hm':=M.comm m2 m (L1:=L1) (L2:=L2.add ⟨[],[k]⟩) (h:=h.set k e) (K:=fun a b h2 T=>K a b h2 ⟨T.rd,k::T.fl⟩) (M.N9 _ (fun a h1 T hh=>M.M6 m2 ⟨fun j hj=>by simpa [Locks.add]using hj,fun j hj=>by
      simp only[Locks.add,List.contains_iff_mem,List.mem_append,List.mem_cons,List.not_mem_nil,or_false]at *
      rcases hj with hj|hj|hj
      ·exact .inl (.inr hj)
      ·exact .inl (.inl hj)
      ·exact .inr hj⟩ hh) hm)
     refine M.wp_mono m2 (fun b h2 hh => ?_) (M.M6 m2 (L2.b4H _) (M.a7M (k:=k) m2 (by simp[Locks.add]) hm'))
     rw[if_neg hc,if_neg hc2,hh.1,if_pos hc3]
     exact hh.2
    ·exact hm.elim
 | .asrt p m,L1,L2,h,K,hm=>by
  simp only[M.wpT]at *
  exact M.wp_mono m2 (fun b h2 hh=>⟨hm.1,hh⟩) (M.comm m2 m hm.2)
 | .fork b t e,L1,L2,h,K,hm=>by
  simp only[M.wpT]at *
  cases hb:b ()with
  |true=>exact M.wp_mono m2 (fun b h2 hh=>⟨fun _=>hh,fun h=>by cases h⟩) (M.comm m2 t (hm.1 hb))
  |false=>exact M.wp_mono m2 (fun b h2 hh=>⟨fun h=>(by cases h),fun _=>hh⟩) (M.comm m2 e (hm.2 hb))
 | .asm p m,_,_,_,_,hm=>hm.elim
 | .all β f,_,_,_,_,hm=>hm.elim
 | .fail,_,_,_,_,hm=>hm.elim
theorem d3b {tm:Tr V} {d:Nat} {v:V} {x:Operand} (h:x ≠ .tmp d):ev (tm.set d v) x=ev tm x:=by
 cases x with
 |tmp t =>
  have hne:t≠d:=fun he=>h (he▸rfl)
  simp only[ev,Tr.j7 _ _ hne]
 |_=>rfl
theorem c3B {tm tm':Tr V} (h : ∀x∈o.op.operands,ev tm x=ev tm' x):opM ctx tm o=opM ctx tm' o:=by
 obtain⟨dst,op,type,pos,after,guard⟩:=o
 have pairs : ∀ps:Array (Nat×Operand),(∀x∈ps.toList.map (·.2),ev tm x=ev tm' x)→(ps.toList.map fun x=>(x.1,ev tm x.2))=(ps.toList.map fun x=>(x.1,ev tm' x.2)):=fun ps hp =>
  List.map_congr_left fun p hm=>by rw[hp p.2 (List.mem_map.2 ⟨p,hm,rfl⟩)]
 have lists : ∀xs:Array Operand,(∀x∈xs,ev tm x=ev tm' x)→xs.toList.map (ev tm)=xs.toList.map (ev tm'):=fun xs hx =>
  List.map_congr_left fun x hm=>hx x (by simpa using hm)
 cases op<;>simp only[Op.operands]at h<;>simp only[opM]
 case build t ps=>rw[pairs ps fun x hx=>h x (by simpa using hx)]
 case buildSlice t n ps=>rw[pairs ps fun x hx=>h x (by simpa using hx)]
 case makeFunc fn first captured =>
  have h1 : ∀g:V→Bool,(captured.toList.all fun x=>g (ev tm x))=(captured.toList.all fun x=>g (ev tm' x)):=fun g=>by
   rw[Bool.eq_iff_iff,List.all_eq_true,List.all_eq_true]
   exact forall₂_congr fun x hx=>by rw[h x (by simp at hx ⊢;exact .inr hx)]
  have h2:(captured.toList.flatMap fun x=>(ev tm x).cells)=(captured.toList.flatMap fun x=>(ev tm' x).cells):=by
   rw[List.flatMap_def,List.flatMap_def]
   congr 1
   exact List.map_congr_left fun x hx=>by rw[h x (by simp at hx ⊢;exact .inr hx)]
  cases fn with
  |func f =>
   simp only[h2]
   exact congrArg (fun b=>M.guard (first.isEmpty&&b) _) (h1 fun v=>match v with
    | .one _=>true
    |_=>false)
  |_=>rfl
 case call c =>
  have:=lists c.args fun x hx=>h x (by simp[Call.operands,hx])
  cases hc:c.callee<;>simp only[this]
 case slice t x lo hi mx =>
  have hx:ev tm x=ev tm' x:=h x (by simp)
  have hlo : ∀d,a1I tm lo d=a1I tm' lo d:=fun d=>by
   cases lo with
   |none=>rfl
   |some y=>simp only[a1I,h y (by simp)]
  have hhi : ∀d,a1I tm hi d=a1I tm' hi d:=fun d=>by
   cases hi with
   |none=>rfl
   |some y=>simp only[a1I,h y (by simp)]
  simp only[hx,hlo,hhi]
 case pick c x y=>rw[h c (by simp),h x (by simp),h y (by simp)]
 case store t x y=>rw[h x (by simp),h y (by simp)]
 case binOp b t x y t'=>rw[h x (by simp),h y (by simp)]
 case makeSlice t x y=>rw[h x (by simp),h y (by simp)]
 case indexAddr t x y=>rw[h x (by simp),h y (by simp)]
 all_goals(first|rfl|(rename_i x;rw[h x (by simp)];done)|(rename_i x _;rw[h x (by simp)];done)|(rename_i x _ _;rw[h x (by simp)];done)|(simp only[h _ (by simp)];done)|skip)
end
end Go.Sx
namespace Go.Sx
section
variable {P:Program} {ctx:Ctx} {B:Base} {e:Env} {a:Act} {w w':World} {σ τ : St} {o:Oper} {Q:Exit→Act→World→Prop} {L:Locks} {hp:Hp} {cl:CallT} {ops:Array Oper}
theorem c7E {tm:Tr V} {d:Option Nat} {v:V} (h : ∀x,d=some x→x ∉ o.looksAt ops) : ∀x∈o.op.operands,ev (putV tm d v) x=ev tm x:=by
 intro x hx
 cases d with
 |none=>rfl
 |some d=>exact d3b fun he=>h d rfl (List.mem_append_left _ (List.mem_filterMap.2 ⟨.tmp d,by subst he;simpa using hx,rfl⟩))
theorem c3D {tm tm':Tr V} (h : ∀x∈o.op.operands,ev tm x=ev tm' x):opC ctx tm o=opC ctx tm' o:=by
 unfold opC
 have hM:opM ctx tm o=opM ctx tm' o:=c3B h
 cases ho:o.op with
 |call c =>
  simp only
  rw[ho]at h
  have hargs:c.args.toList.map (ev tm)=c.args.toList.map (ev tm'):=List.map_congr_left fun x hx=>h x (by simp at hx;simp[Op.operands,Call.operands,hx])
  cases hc:c.callee with
  |value f=>simp only[hargs,h f (by simp[Op.operands,Call.operands,hc])]
  |_=>simp only[hM]
 |_=>simp only[hM]
theorem c4K {tm:Tr V} {d:Option Nat} {v:V} (h : ∀x,d=some x→x ∉ o.looksAt ops):guardOf ops.toList (putV tm d v) o=guardOf ops.toList tm o:=by
 cases d with
 |none=>rfl
 |some d =>
  unfold guardOf
  cases hg:o.guard with
  |none=>rfl
  |some jw =>
   obtain⟨j,want⟩:=jw
   simp only
   cases hj:ops.toList[j]? with
   |none=>rfl
   |some oj =>
    simp only
    cases hd:oj.dst with
    |none=>rfl
    |some t =>
     have hne:t≠d:=fun he=>h d rfl (by
      subst he
      have hj':ops[j]? = some oj:=by simpa using hj
      refine List.mem_append_right _ ?_
      simp[hg,hj',hd])
     simp only[putV,Tr.j7 _ _ hne]
theorem b6t {tm:Tr V} {i:Nat} {d:Option Nat} {v:V} (h : ∀x,d=some x→x ∉ o.looksAt ops):regM ctx ops.toList i o (putV tm d v)=regM ctx ops.toList i o tm:=by
 unfold regM
 rw[c4K h,c3D (c7E h)]
theorem c3s {tm:Tr V} {d d':Option Nat} {v v':V} (h : ∀x,d=some x→d'≠some x):putV (putV tm d v) d' v'=putV (putV tm d' v') d v:=by
 cases d with
 |none=>rfl
 |some d=>cases d' with
  |none=>rfl
  |some d'=>exact Tr.set_comm tm _ _ fun he=>h d rfl (he▸rfl)
def rdy (rf:Nat→Bool) (ops:Array Oper) (listed:Array Bool):List Nat:=(Region.ready .any ops listed).filter rf
theorem Z0 {rf:Nat→Bool} {listed:Array Bool} {j:Nat} (h:j∈rdy rf ops listed):j∈Region.ready .any ops listed:=(List.mem_filter.1 h).1
theorem a9J {rf:Nat→Bool} {i j:Nat} {listed:Array Bool} (hj:j∈rdy rf ops listed) (hne:j≠i):j∈rdy rf ops (listed.setIfInBounds i true) :=
 List.mem_filter.2 ⟨ready_mono (Z0 hj) hne,(List.mem_filter.1 hj).2⟩
def O3 (ctx:Ctx) (ops:Array Oper) (rf:Nat→Bool):Nat→Array Bool→(Nat→Locks)→St→(Nat→Array Bool→St→Prop)→Prop
 | 0,listed,_,σ,K=>rdy rf ops listed = []∧K 0 listed σ
 |fuel+1,listed,LL,σ,K=>(rdy rf ops listed = []→K (fuel+1) listed σ) ∧ ∀i∈rdy rf ops listed,∀o,ops[i]? = some o→a4J ctx.nt o.dst=true ∧
   (regM ctx ops.toList i o σ.tm).wp (LL i) σ.hp fun v hp=>O3 ctx ops rf fuel (listed.setIfInBounds i true) LL ⟨putV σ.tm o.dst v,hp,σ.up⟩ K
theorem a3i {rf:Nat→Bool} : ∀(fuel:Nat) {listed:Array Bool} {LL LL':Nat→Locks} {σ : St} {K:Nat→Array Bool→St→Prop},(∀j,(LL j).le (LL' j))→O3 ctx ops rf fuel listed LL' σ K→O3 ctx ops rf fuel listed LL σ K
 | 0,_,_,_,_,_,_,h=>h
 |fuel+1,listed,LL,LL',σ,K,hl,h=>⟨h.1,fun i hi o ho=>⟨(h.2 i hi o ho).1,M.wp_mono _ (fun v hp hh=>a3i fuel hl hh) (M.M6 _ (hl i) (h.2 i hi o ho).2)⟩⟩
def b8m (ops:Array Oper) (i:Nat) (oi:Oper) (F:Nat) (listed:Array Bool):Prop :=
 ∀listed':Array Bool,(∀k,listed.getD k false=true→listed'.getD k false=true)→(∀k,listed'.getD k false=true→listed.getD k false=true∨F.testBit k=true)→listed'.size=listed.size →
  ∀j∈Region.ready .any ops listed',j≠i→F.testBit j=true ∧ ∀oj,ops[j]? = some oj→oi.apart ops oj=true
theorem b0M {listed:Array Bool} {j k:Nat}:(listed.setIfInBounds j true).getD k false=true↔listed.getD k false=true∨(k=j∧j<listed.size):=by
 simp only[Array.getD_eq_getD_getElem?,Array.getElem?_setIfInBounds]
 by_cases h:j=k
 ·subst h
  rw[if_pos rfl]
  by_cases hs:j<listed.size
  ·simp[hs]
  ·simp[hs,Array.getElem?_eq_none (Nat.le_of_not_lt hs)]
 ·rw[if_neg h]
  have : ¬(k=j):=fun he=>h he.symm
  simp[this]
theorem b8m.step {i j:Nat} {oi:Oper} {F:Nat} {listed:Array Bool} (h:b8m ops i oi F listed) (hj:F.testBit j=true):b8m ops i oi F (listed.setIfInBounds j true):=by
 intro l' h1 h2 h3
 refine h l' (fun k hk=>h1 k (b0M.2 (.inl hk))) (fun k hk => ?_) (by rw[h3,Array.size_setIfInBounds])
 rcases h2 k hk with h4|h4
 ·rcases b0M.1 h4 with h5|⟨rfl,_⟩
  ·exact .inl h5
  ·exact .inr hj
 ·exact .inr h4
def a0Z (F:Nat) (LL:Nat→Locks) (T:Locks) (j:Nat):Locks:=if F.testBit j then(LL j).add T else LL j
theorem b3C {rf:Nat→Bool} {i:Nat} {oi:Oper} {F:Nat} (hi:ops[i]? = some oi) (hdst:a4J ctx.nt oi.dst=true) (hFi:F.testBit i=false) : ∀(fuel:Nat) (listed:Array Bool) (LL:Nat→Locks) (σ : St) (K:Nat→Array Bool→St→Prop),b8m ops i oi F listed→i∈rdy rf ops listed →
  ((regM ctx ops.toList i oi σ.tm).wpT (LL i) σ.hp fun v hp T=>O3 ctx ops rf fuel (listed.setIfInBounds i true) (a0Z F LL T) ⟨putV σ.tm oi.dst v,hp,σ.up⟩ K)→O3 ctx ops rf (fuel+1) listed LL σ K:=by
 intro fuel
 have anti : ∀(LL:Nat→Locks) (T:Locks) j,(LL j).le (a0Z F LL T j):=fun LL T j=>by
  unfold a0Z
  split
  ·exact(LL j).b4H T
  ·exact(LL j).le_refl
 induction fuel with
 |zero =>
  intro listed LL σ K hk hr H
  refine⟨fun h=>(by rw[h]at hr;cases hr),fun j hj oj hoj => ?_⟩
  by_cases hji:j=i
  ·subst hji
   rw[hi]at hoj
   cases hoj
   exact⟨hdst,M.X6 _ (fun v hp T hh=>a3i 0 (anti LL T) hh) H⟩
  ·exfalso
   have hex : ∃(v:V) (hp:Hp) (T:Locks),O3 ctx ops rf 0 (listed.setIfInBounds i true) (a0Z F LL T) ⟨putV σ.tm oi.dst v,hp,σ.up⟩ K:=by
    revert H
    generalize regM ctx ops.toList i oi σ.tm=m
    generalize LL i=L1
    generalize σ.hp=h0
    intro H
    suffices ∀(m:M V) (h0:Hp) (KK:V→Hp→Locks→Prop),m.wpT L1 h0 KK → ∃v hp T,KK v hp T from this m h0 _ H
    intro m
    induction m with
    |ret a=>exact fun h0 KK h=>⟨_,_,_,h⟩
    |get k f ih =>
     intro h0 KK h
     simp only[M.wpT]at h
     split at h
     ·exact h.elim
     ·obtain⟨v,hp,T,hh⟩:=ih _ h0 _ h
      exact⟨_,_,_,hh⟩
    |set k e m ih =>
     intro h0 KK h
     simp only[M.wpT]at h
     split at h
     ·exact h.elim
     ·split at h
      ·exact h.elim
      ·split at h
       ·obtain⟨v,hp,T,hh⟩:=ih _ _ h
        exact⟨_,_,_,hh⟩
       ·exact h.elim
    |asrt p m ih=>exact fun h0 KK h=>ih _ _ h.2
    |fork b t e iht ihe =>
     intro h0 KK h
     cases hb:b ()with
     |true=>exact iht _ _ (h.1 hb)
     |false=>exact ihe _ _ (h.2 hb)
    |_=>exact fun h0 KK h=>h.elim
   obtain⟨v,hp,T,hs⟩:=hex
   have:=a9J hj hji
   rw[hs.1]at this
   cases this
 |succ fuel ih =>
  intro listed LL σ K hk hr H
  refine⟨fun h=>(by rw[h]at hr;cases hr),fun j hj oj hoj => ?_⟩
  by_cases hji:j=i
  ·subst hji
   rw[hi]at hoj
   cases hoj
   exact⟨hdst,M.X6 _ (fun v hp T hh=>a3i (fuel+1) (anti LL T) hh) H⟩
  ·obtain⟨hFj,hap⟩:=hk listed (fun _ h=>h) (fun _ h => .inl h) rfl j (Z0 hj) hji
   obtain⟨h1,h2,h3⟩:=Oper.apart_spec (hap oj hoj)
   have hjr:=a9J hj hji
   have hH:=M.N9 (K':=fun v hp T=>a4J ctx.nt oj.dst=true∧(regM ctx ops.toList j oj σ.tm).wp ((LL j).add T) hp fun u hq=>O3 ctx ops rf fuel ((listed.setIfInBounds i true).setIfInBounds j true) (a0Z F LL T) ⟨putV (putV σ.tm oi.dst v) oj.dst u,hq,σ.up⟩ K) _ (fun v hp T hh=>by
     have:=hh.2 j hjr oj hoj
     refine⟨this.1,?_⟩
     have h5:=this.2
     rw[b6t h1]at h5
     unfold a0Z at h5
     rw[if_pos hFj]at h5
     exact h5) H
   have hd:a4J ctx.nt oj.dst=true:=by
    cases hx:a4J ctx.nt oj.dst with
    |true=>rfl
    |false =>
     exfalso
     revert hH
     generalize regM ctx ops.toList i oi σ.tm=m
     generalize σ.hp=h0
     intro hH
     have : ∀(m:M V) (h0:Hp) (KK:V→Hp→Locks→Prop),(∀v hp T,¬KK v hp T)→m.wpT (LL i) h0 KK→False:=by
      intro m
      induction m with
      |ret a=>exact fun h0 KK hn h=>hn _ _ _ h
      |get k f ih =>
       intro h0 KK hn h
       simp only[M.wpT]at h
       split at h
       ·exact h
       ·exact ih _ h0 _ (fun _ _ _=>hn _ _ _) h
      |set k e m ih =>
       intro h0 KK hn h
       simp only[M.wpT]at h
       split at h
       ·exact h
       ·split at h
        ·exact h
        ·split at h
         ·exact ih _ _ (fun _ _ _=>hn _ _ _) h
         ·exact h
      |asrt p m ih=>exact fun h0 KK hn h=>ih _ _ hn h.2
      |fork b t e iht ihe =>
       intro h0 KK hn h
       cases hb:b ()with
       |true=>exact iht _ _ hn (h.1 hb)
       |false=>exact ihe _ _ hn (h.2 hb)
      |_=>exact fun h0 KK hn h=>h
     exact this m h0 _ (fun v hp T hh=>by rw[hx]at hh;cases hh.1) hH
   refine⟨hd,?_⟩
   have hc:=M.comm (regM ctx ops.toList j oj σ.tm) (regM ctx ops.toList i oi σ.tm) (L1:=LL i) (L2:=LL j) (h := σ.hp) (K:=fun v u hq T=>O3 ctx ops rf fuel ((listed.setIfInBounds i true).setIfInBounds j true) (a0Z F LL T) ⟨putV (putV σ.tm oi.dst v) oj.dst u,hq,σ.up⟩ K) (M.N9 _ (fun v hp T hh=>hh.2) hH)
   refine M.wp_mono _ (fun u hq hh => ?_) hc
   refine ih (listed.setIfInBounds j true) LL ⟨putV σ.tm oj.dst u,hq,σ.up⟩ K (hk.step hFj) (a9J hr (Ne.symm hji)) ?_
   simp only
   rw[b6t h3]
   refine M.N9 _ (fun v hp T h6 => ?_) hh
   rw[Array.setIfInBounds_comm _ _ hji,←c3s h2]
   exact h6
end
end Go.Sx
namespace Go.Sx
section
variable {P:Program} {ctx:Ctx} {B:Base} {e:Env} {a:Act} {w w':World} {σ τ : St} {o:Oper} {Q:Exit→Act→World→Prop} {L:Locks} {hp:Hp} {cl:CallT} {ops:Array Oper}
structure Agr (ops:Array Oper) (ls:List Nat) (listed:Array Bool):Prop where
 size:listed.size=ops.size
 lt : ∀k∈ls,k<ops.size
 iff : ∀k,listed.getD k false=true↔k∈ls
theorem Agr.ready {ls:List Nat} {listed:Array Bool} (h:Agr ops ls listed) (j:Nat):j∈Region.ready .any ops listed↔C0 ops.toList ls j=true:=by
 rw[mem_ready]
 unfold C0
 cases ho:ops[j]? with
 |none =>
  have:ops.toList[j]? = none:=by simpa using ho
  simp[this]
 |some o =>
  have ho':ops.toList[j]? = some o:=by simpa using ho
  have hlt:j<ops.size:=(Array.getElem?_eq_some_iff.1 ho).1
  rw[ho']
  have hj:listed.getD j true=false↔j ∉ ls:=by
   rw[←h.iff j]
   have hs:j<listed.size:=by rw[h.size];exact hlt
   simp[Array.getD_eq_getD_getElem?,hs]
  rw[hj]
  simp only[Option.some.injEq,exists_eq_left',Bool.and_eq_true,Bool.not_eq_true',List.all_eq_true,Bool.or_eq_true,Array.mem_toList_iff]
  constructor
  ·rintro⟨h1,h2⟩
   refine⟨by simpa using h1,fun e he => ?_⟩
   by_cases hb:Region.binds .any e=true
   ·exact .inr (by simpa using(h.iff e.on).1 (h2 e he hb))
   ·exact .inl (by simpa using hb)
  ·rintro⟨h1,h2⟩
   refine⟨by simpa using h1,fun e he hb=>(h.iff e.on).2 ?_⟩
   rcases h2 e he with h3|h3
   ·rw[h3]at hb;cases hb
   ·simpa using h3
theorem Agr.cons {ls:List Nat} {listed:Array Bool} (h:Agr ops ls listed) {i:Nat} (hi:i<ops.size):Agr ops (i::ls) (listed.setIfInBounds i true) :=
 ⟨by rw[Array.size_setIfInBounds,h.size],fun k hk=>by
  rcases List.mem_cons.1 hk with rfl|hk
  ·exact hi
  ·exact h.lt k hk,fun k=>by
  rw[b0M,h.iff,List.mem_cons,h.size]
  constructor
  ·rintro(h1|⟨h1,_⟩)
   ·exact .inr h1
   ·exact .inl h1
  ·rintro(h1|h1)
   ·exact .inr ⟨h1,hi⟩
   ·exact .inl h1⟩
theorem Z7 {l:List Oper} {ls ls':List Nat} {j:Nat} (h:C0 l ls j=true) (hs : ∀k∈ls,k∈ls') (hj:j ∉ ls'):C0 l ls' j=true:=by
 unfold C0 at *
 simp only[Bool.and_eq_true,Bool.not_eq_true']at *
 refine⟨by simpa using hj,?_⟩
 cases hl:l[j]? with
 |none=>rw[hl]at h;exact h.2
 |some o =>
  rw[hl]at h
  simp only[List.all_eq_true,Bool.or_eq_true]at *
  intro e he
  rcases h.2 e he with h1|h1
  ·exact .inl h1
  ·exact .inr (by simpa using hs _ (by simpa using h1))
def A2:List (Nat×Nat)→List Nat→List Nat
 |[],ls=>ls
 |(i,_)::r,ls=>A2 r (i::ls)
theorem a5b : ∀ {p:List (Nat×Nat)} {ls:List Nat} {k:Nat},k∈A2 p ls↔(∃F,(k,F)∈p)∨k∈ls
 |[],ls,k=>by simp[A2]
 |(i,F)::r,ls,k=>by
  simp only[A2,a5b,List.mem_cons,Prod.mk.injEq]
  constructor
  ·rintro(⟨F',h⟩|h|h)
   ·exact .inl ⟨F',.inr h⟩
   ·exact .inl ⟨F,.inl ⟨h,rfl⟩⟩
   ·exact .inr h
  ·rintro(⟨F',h|h⟩|h)
   ·exact .inr (.inl h.1)
   ·exact .inl ⟨F',h⟩
   ·exact .inr (.inr h)
theorem a2C : ∀ {p rest:List (Nat×Nat)} {ls:List Nat},J8 ops ls (p++rest)=true→J8 ops (A2 p ls) rest=true
 |[],_,_,h=>h
 |(i,F)::r,rest,ls,h=>by
  simp only[List.cons_append,J8,Bool.and_eq_true]at h
  show J8 ops (A2 r (i::ls)) rest=true
  exact a2C h.2
theorem b8V {ls:List Nat} {listed:Array Bool} (hA:Agr ops ls listed) (hp:J8 ops ls []=true):Region.ready .any ops listed = []:=by
 simp only[J8,List.all_eq_true,List.mem_range,Bool.not_eq_true']at hp
 rw[List.eq_nil_iff_forall_not_mem]
 intro j hj
 have h1:=(hA.ready j).1 hj
 have hlt:j<ops.size:=by
  obtain⟨_,o,ho,_⟩:=mem_ready.1 hj
  exact(Array.getElem?_eq_some_iff.1 ho).1
 rw[hp j hlt]at h1
 cases h1
theorem W9 {rf:Nat→Bool} {Kd:St→Prop} {K:Nat→Array Bool→St→Prop} {rest:List (Nat×Nat)} : ∀(plan:List (Nat×Nat)) (ls:List Nat) (listed:Array Bool) (fuel:Nat) (LL:Nat→Locks) (σ : St),Agr ops ls listed→plan.length≤fuel→J8 ops ls (plan++rest)=true →
  (∀k F,(k,F)∈plan→rf k=true)→(∀listed',Agr ops (A2 plan ls) listed'→rdy rf ops listed' = [])→(∀listed' fuel' σ,Agr ops (A2 plan ls) listed'→fuel=fuel'+plan.length→Kd σ → K fuel' listed' σ) →
  a1H ctx ops.toList plan LL σ Kd→O3 ctx ops rf fuel listed LL σ K
 |[],ls,listed,fuel,LL,σ,hA,_,hp,hrf,hE,hK,hm=>by
  have hr:=hE listed hA
  cases fuel with
  |zero=>exact⟨hr,hK listed 0 σ hA rfl hm⟩
  |succ fuel=>exact⟨fun _=>hK listed (fuel+1) σ hA rfl hm,fun i hi=>by rw[hr]at hi;cases hi⟩
 |(i,F)::r,ls,listed,fuel,LL,σ,hA,hl,hp,hrf,hE,hK,hm=>by
  cases fuel with
  |zero=>simp at hl
  |succ fuel =>
   simp only[List.cons_append,J8,Bool.and_eq_true]at hp
   obtain⟨⟨⟨hri,hFi⟩,hall⟩,hrest⟩:=hp
   simp only[a1H]at hm
   cases hoi:ops[i]? with
   |none=>rw[hoi]at hall;cases hall
   |some oi =>
    have hoi':ops.toList[i]? = some oi:=by simpa using hoi
    simp only[hoi']at hm
    rw[hoi]at hall
    have hlt:i<ops.size:=(Array.getElem?_eq_some_iff.1 hoi).1
    simp only[List.all_eq_true,List.mem_range,Bool.or_eq_true,beq_iff_eq]at hall
    split at hm
    ·rename_i hdst
     have hready:i∈rdy rf ops listed:=List.mem_filter.2 ⟨(hA.ready i).2 hri,hrf i F (.head _)⟩
     have ih:=fun LL σ => W9 r (i::ls) (listed.setIfInBounds i true) fuel LL σ (hA.cons hlt) (by simpa using hl) hrest (fun k F' hk=>hrf k F' (.tail _ hk)) hE (fun l' f' σ h1 h2 h3=>hK l' f' σ h1 (by simp only[List.length_cons];omega) h3)
     have keeps:b8m ops i oi F listed:=by
      intro l' h1 h2 h3 j hj hji
      have hjlt:j<ops.size:=by
       obtain⟨_,o,ho,_⟩:=mem_ready.1 hj
       exact(Array.getElem?_eq_some_iff.1 ho).1
      have hjl:l'.getD j false=false:=by
       have:=(mem_ready.1 hj).1
       have hs:j<l'.size:=by rw[h3,hA.size];exact hjlt
       simpa [Array.getD_eq_getD_getElem?,hs]using this
      have hjls:j ∉ ls:=fun hm=>by
       have:=h1 j ((hA.iff j).2 hm)
       rw[hjl]at this
       cases this
      rcases hall j hjlt with (h4|h4)|h4
      ·exact absurd h4 hji
      ·exact absurd (by simpa using h4) hjls
      ·split at h4
       ·rename_i hF
        refine⟨hF,fun oj hoj => ?_⟩
        unfold c9k at h4
        rw[hoj]at h4
        exact h4
       ·rename_i hF
        exfalso
        let ls':=(List.range ops.size).filter fun k=>l'.getD k false
        have hA':Agr ops ls' l':=⟨by rw[h3,hA.size],fun k hk=>by simpa [ls']using(List.mem_filter.1 hk).1,fun k=>by
         constructor
         ·intro hk
          refine List.mem_filter.2 ⟨List.mem_range.2 ?_,hk⟩
          rcases Nat.lt_or_ge k ops.size with hkl|hkl
          ·exact hkl
          ·have hs:l'.size≤k:=by rw[h3,hA.size];exact hkl
           simp[Array.getD_eq_getD_getElem?,Array.getElem?_eq_none hs]at hk
         ·intro hk
          exact(List.mem_filter.1 hk).2⟩
        have h5:=(hA'.ready j).1 hj
        have h6:=Z7 (ls':=ls++(List.range ops.size).filter F.testBit) h5 (fun k hk=>by
         have hkl:=hA'.lt k hk
         rcases h2 k ((hA'.iff k).2 hk)with h7|h7
         ·exact List.mem_append_left _ ((hA.iff k).1 h7)
         ·exact List.mem_append_right _ (List.mem_filter.2 ⟨List.mem_range.2 hkl,h7⟩)) (fun hmem=>by
         rcases List.mem_append.1 hmem with h7|h7
         ·exact hjls h7
         ·exact hF (List.mem_filter.1 h7).2)
        rw[h6]at h4
        cases h4
     split at hm
     ·
      refine⟨fun h=>(by rw[h]at hready;cases hready),fun j hj oj hoj => ?_⟩
      by_cases hji:j=i
      ·subst hji
       rw[hoi]at hoj
       cases hoj
       exact⟨hdst,M.wp_mono _ (fun v hp hh=>ih LL _ hh) hm⟩
      ·have:=(keeps listed (fun _ h=>h) (fun _ h => .inl h) rfl j (Z0 hj) hji).1
       simp at this
     ·rename_i F'
      refine b3C hoi hdst (by simpa using hFi) fuel listed LL σ K keeps hready (M.N9 _ (fun v hp T hh=>ih _ _ hh) hm)
    ·exact hm.elim
end
end Go.Sx
namespace Go.Sx
section
variable {P:Program} {ctx:Ctx} {B:Base} {e:Env} {a:Act} {w w':World} {σ τ : St} {o:Oper} {Q:Exit→Act→World→Prop} {L:Locks} {hp:Hp} {cl:CallT}
def At (B:Base) (n:Nat) (K:St→Prop) (a:Act) (w:World):Prop:=a.defers = []∧a.tmps.size=n ∧ ∃e σ,Rel B e w a.tmps σ ∧ K σ
theorem a5O (a:Act) (d:Option Nat) (v:Value):(a.put d v).tmps.size=a.tmps.size:=by cases d<;>simp[Act.put]
theorem put_defers (a:Act) (d:Option Nat) (v:Value):(a.put d v).defers=a.defers:=by cases d<;>rfl
theorem b4h {v:Value} {x:V} {K:V→Prop} (hv:VR e hp w v x) (hm:a7m x K) : ∃y,VR e hp w v y∧K y:=by
 unfold a7m at hm
 split at hm
 ·rename_i f
  have hb:=a0w hv
  cases hf:f ()with
  |true =>
   refine⟨_,?_,hm.1 hf⟩
   rw[hb]
   simp only[SB.val,hf]
   exact H4 .tt
  |false =>
   refine⟨_,?_,hm.2 hf⟩
   rw[hb]
   simp only[SB.val,hf]
   exact H4 .ff
 ·exact⟨x,hv,hm⟩
theorem b7Q {a:Act} {d:Nat} {v:Value} (h:d<a.tmps.size):(a.put (some d) v).tmps.getD d undef=v:=by
 simp[Act.put,Array.getD,h]
theorem T4 (hcl:ClOk P cl) (hty:TyOk P ctx.ty) {ops:Array Oper} {i:Nat} (ho:ops[i]? = some o) {K:St→Prop} (hA:a.defers = []) (hn:a.tmps.size=ctx.nt) (h:Rel B e w a.tmps σ)
  (hm:a3l ctx L cl ops.toList i o σ K) {Kn:Act→World→Prop} (hk : ∀a w,At B ctx.nt K a w→Kn a w):wpOp P ops Q i Kn a w:=by
 unfold a3l at hm
 split at hm
 ·rename_i hdst
  have hd : ∀d,o.dst=some d→d<a.tmps.size:=by rw[hn];exact c0d hdst
  have hg:=b7G (ops:=ops) (o:=o) h
  simp only[wpOp,ho]
  split at hm
  ·rename_i hgy
   rw[hgy]at hg
   rw[if_pos hg]
   left
   refine c3C hcl h hd (fun v x σ' e' w' hK hr => ?_) hty hm
   split at hK
   ·
    cases hdd:o.dst with
    |none =>
     rw[hdd]at hr hK
     obtain⟨y,hy⟩ : ∃y,K ⟨putV σ'.tm none y,σ'.hp,σ'.up⟩:=by
      unfold a7m at hK
      split at hK
      ·rename_i f
       cases hf:f ()with
       |true=>exact⟨_,hK.1 hf⟩
       |false=>exact⟨_,hK.2 hf⟩
      ·exact⟨_,hK⟩
     exact hk _ _ ⟨by rw[put_defers];exact hA,by rw[a5O];exact hn,e',_,hr,hy⟩
    |some d =>
     rw[hdd]at hr hK
     have hdl:=hd d hdd
     have hvx:=hr.tm d
     rw[b7Q hdl]at hvx
     simp only[putV,Tr.e8]at hvx
     obtain⟨y,hy,hKy⟩:=b4h hvx hK
     refine hk _ _ ⟨by rw[put_defers];exact hA,by rw[a5O];exact hn,e',⟨putV σ'.tm (some d) y,σ'.hp,σ'.up⟩,⟨hr.hr,hr.fr,hr.up,fun t => ?_⟩,hKy⟩
     have ht:=hr.tm t
     simp only[putV,Tr.W4]at ht ⊢
     by_cases he:t=d
     ·rw[if_pos he]
      rw[he,b7Q hdl]
      exact hy
     ·rw[if_neg he]at ht ⊢
      exact ht
   ·exact hk _ _ ⟨by rw[put_defers];exact hA,by rw[a5O];exact hn,e',_,hr,hK⟩
  ·rename_i hgn
   rw[hgn]at hg
   rw[if_neg (by simp[hg])]
   refine hk _ _ ⟨by rw[put_defers];exact hA,by rw[a5O];exact hn,e,_,h.a3s VR.undef hd,hm⟩
  ·exact hm.elim
 ·exact hm.elim
theorem a7P (hcl:ClOk P cl) (hty:TyOk P ctx.ty) {ops:Array Oper} : ∀(r:List Oper) (i:Nat),(∀j o,r[j]? = some o→ops[i+j]? = some o) → ∀(a:Act) (w:World) (e:Env) (σ : St) (K:St→Prop),a.defers = []→a.tmps.size=ctx.nt→Rel B e w a.tmps σ →
  c5E ctx L cl ops.toList i r σ K→(∀a w,At B ctx.nt K a w→Q .normal a w)→wpOps P ops Q (List.range' i r.length) a w
 |[],i,_,a,w,e,σ,K,hA,hn,h,hm,hk=>hk a w ⟨hA,hn,e,σ,h,hm⟩
 |o::r,i,hr,a,w,e,σ,K,hA,hn,h,hm,hk=>by
  simp only[List.length_cons,List.range'_succ,wpOps_cons]
  refine T4 hcl hty (hr 0 o rfl) hA hn h hm fun a' w' hat => ?_
  obtain⟨hA',hn',e',σ',h',hm'⟩:=hat
  exact a7P hcl hty r (i+1) (fun j o' hj=>by
   have:=hr (j+1) o' (by simpa using hj)
   rw[←this]
   congr 1
   omega) a' w' e' σ' K hA' hn' h' hm' hk
def QM (B:Base) (n:Nat) (Q:Ex→St→Prop):Exit→Act→World→Prop
 | .normal,a,w=>At B n (Q .normal) a w
 | .exit id,a,w=>At B n (Q (.exit id)) a w
 | .ret,a,w=>At B n (Q .ret) a w
 |_,_,_=>False
def clS (spec:Nat→Option SpecX) (L:Locks):CallT:=fun key f args σ K=>match spec f with
 |some s=>(a2h s (512 * (key+1)+256) args).wp L σ.hp fun v hp=>K v ⟨σ.tm,hp,σ.up⟩
 |none=>False
def Z4 (P:Program) (spec:Nat→Option SpecX):Prop := ∀f s,spec f=some s → ∀L kb,ClOk P fun _ f' args σ K=>f'=f∧(a2h s kb args).wp L σ.hp fun v hp=>K v ⟨σ.tm,hp,σ.up⟩
theorem c0l {spec:Nat→Option SpecX} (h:Z4 P spec) (L:Locks):ClOk P (clS spec L):=by
 intro key f args σ K hm
 unfold clS at hm
 split at hm
 ·rename_i s hs
  exact h f s hs L (512 * (key+1)+256) key f args σ K ⟨rfl,hm⟩
 ·exact hm.elim
def Kept (σ : St) (K:V→Hp→Prop) (v:V) (σ':St):Prop := σ'.tm = σ.tm ∧ σ'.up = σ.up∧K v σ'.hp
theorem d0g {K:V→Hp→Prop} (hm:(opC ctx σ.tm o).wp L σ.hp K):opK ctx L (clS ctx.spec L) o σ (Kept σ K):=by
 unfold opC at hm
 unfold opK
 have plain:(opM ctx σ.tm o).wp L σ.hp K→(opM ctx σ.tm o).wp L σ.hp fun v hp=>Kept σ K v ⟨σ.tm,hp,σ.up⟩:=fun h=>M.wp_mono _ (fun v hp hk=>⟨rfl,rfl,hk⟩) h
 split at hm
 ·rename_i c ho
  split at hm
  ·rename_i f hc
   split at hm
   ·rename_i g hg
    simp only[hg,b1m,if_true]
    split at hm
    ·rename_i s hs
     simp only[clS,hs,List.map_nil,List.append_nil]
     exact M.wp_mono _ (fun v hp hk=>⟨rfl,rfl,hk⟩) hm
    ·exact hm.elim
   ·exact hm.elim
  ·exact plain hm
 ·exact plain hm
theorem c6N {cl:CallT} (hcl : ∀key f args σ (K K':V→St→Prop),(∀v σ,K v σ → K' v σ)→cl key f args σ K→cl key f args σ K') {K K':V→St→Prop} (hk : ∀v σ,K v σ → K' v σ) (hm:opK ctx L cl o σ K):opK ctx L cl o σ K':=by
 unfold opK at *
 split
 ·rename_i c ho
  simp only[ho]at hm
  split
  ·rename_i f hf
   simp only[hf]at hm
   split
   ·rename_i g caps hg
    simp only[hg]at hm
    split
    ·rename_i hc
     rw[if_pos hc]at hm
     exact hcl _ _ _ _ _ _ hk hm
    ·rename_i hc
     rw[if_neg hc]at hm
     exact hm
   ·rename_i hg
    split at hm
    ·rename_i g caps hg'
     exact absurd hg' (hg g caps)
    ·exact hm
  ·rename_i hf
   split at hm
   ·rename_i f hf'
    exact absurd hf' (hf f)
   ·exact M.wp_mono _ (fun v hp h=>hk _ _ h) hm
 ·rename_i hc
  split at hm
  ·rename_i c hc'
   exact absurd hc' (hc c)
  ·exact M.wp_mono _ (fun v hp h=>hk _ _ h) hm
theorem c8Y {spec:Nat→Option SpecX} {L:Locks} : ∀key f args σ (K K':V→St→Prop),(∀v σ,K v σ → K' v σ)→clS spec L key f args σ K→clS spec L key f args σ K':=by
 intro key f args σ K K' hk hm
 unfold clS at *
 split
 ·rename_i s hs
  rw[hs]at hm
  exact M.wp_mono _ (fun v hp h=>hk _ _ h) hm
 ·rename_i hs
  rw[hs]at hm
  exact hm
theorem b4i {v:V} {K:V→Hp→Prop} (hm:(c6D v).wp L hp K):a7m v fun v=>K v hp:=by
 unfold c6D at hm
 unfold a7m
 split
 ·simpa only[M.wp]using hm
 ·rename_i hv
  split at hm
  ·rename_i f
   exact absurd rfl (hv f)
  ·exact hm
theorem a4T {ops:List Oper} {i:Nat} {K:St→Prop} (hd:a4J ctx.nt o.dst=true) (hm:(regM ctx ops i o σ.tm).wp L σ.hp fun v hp=>K ⟨putV σ.tm o.dst v,hp,σ.up⟩):a3l ctx L (clS ctx.spec L) ops i o σ K:=by
 unfold a3l
 rw[if_pos hd]
 unfold regM at hm
 split
 ·rename_i hg
  rw[hg]at hm
  simp only at hm
  rw[M.wp_bind]at hm
  refine c6N c8Y (fun v σ' hh => ?_) (d0g hm)
  obtain⟨tm',hp',up'⟩ := σ'
  obtain⟨h1,h2,h3⟩:=hh
  simp only at h1 h2 h3
  subst h1 h2
  split
  ·rename_i ha
   rw[if_pos ha]at h3
   exact b4i h3
  ·rename_i ha
   rw[if_neg ha]at h3
   exact h3
 ·rename_i hg
  rw[hg]at hm
  exact hm
 ·rename_i hg
  rw[hg]at hm
  exact hm
theorem a0q (hsp:Z4 P ctx.spec) (hty:TyOk P ctx.ty) {ops:Array Oper} {rf:Nat→Bool} {K:Nat→Array Bool→St→Prop} (Inv:Array Bool→Prop) (hInv : ∀l i,Inv l→i∈rdy rf ops l→Inv (l.setIfInBounds i true))
  (hAll : ∀l,Inv l→rdy rf ops l ≠ [] → ∀j∈Region.ready .any ops l,j∈rdy rf ops l)
  (hT : ∀fuel l σ a w e,Inv l→rdy rf ops l = []→a.defers = []→a.tmps.size=ctx.nt→Rel B e w a.tmps σ → K fuel l σ → wpAny P .any ops Q fuel l a w) :
  ∀(fuel:Nat) (listed:Array Bool) (LL:Nat→Locks) (σ : St) (a:Act) (w:World) (e:Env),Inv listed→a.defers = []→a.tmps.size=ctx.nt→Rel B e w a.tmps σ →
  O3 ctx ops rf fuel listed LL σ K→wpAny P .any ops Q fuel listed a w
 | 0,listed,LL,σ,a,w,e,hI,hA,hn,h,hs=>hT 0 listed σ a w e hI hs.1 hA hn h hs.2
 |fuel+1,listed,LL,σ,a,w,e,hI,hA,hn,h,hs=>by
  by_cases hr:rdy rf ops listed = []
  ·exact hT _ _ σ a w e hI hr hA hn h (hs.1 hr)
  ·refine⟨fun h0=>absurd (by rw[rdy,h0];rfl) hr,fun i hi => ?_⟩
   have hi':=hAll listed hI hr i hi
   obtain⟨_,o,ho,_⟩:=mem_ready.1 hi
   obtain⟨hd,hm⟩:=hs.2 i hi' o ho
   refine T4 (L:=LL i) (c0l hsp _) hty ho hA hn h (a4T (K:=fun σ'=>O3 ctx ops rf fuel (listed.setIfInBounds i true) LL σ' K) hd hm) fun a' w' hat => ?_
   obtain⟨hA',hn',e',σ',h',hs'⟩:=hat
   exact a0q hsp hty Inv hInv hAll hT fuel _ LL σ' a' w' e' (hInv _ _ hI hi') hA' hn' h' hs'
theorem Locks.nil_le (L:Locks):Locks.le ⟨[],[]⟩ L:=⟨fun k h=>by simp at h,fun k h=>by simp at h⟩
theorem b1J (hsp:Z4 P ctx.spec) (hty:TyOk P ctx.ty) {ops:Array Oper} {rf1 rf2:Nat→Bool} {z:Nat} {K1 K2:Nat→Array Bool→St→Prop} (Inv:Array Bool→Prop)
  (hInv : ∀l j,Inv l→j∈rdy rf2 ops l→Inv (l.setIfInBounds j true)) (hsub : ∀j,rf2 j=true→rf1 j=true) (hz:rf1 z=true)
  (hAll : ∀l,Inv l → ∀j∈Region.ready .any ops l,rf2 j=true∨j=z∨rdy rf2 ops l = [])
  (HK : ∀fuel l σ,Inv l→K1 fuel l σ → False)
  (H1 : ∀fuel l LL σ a w e,Inv l→z∈Region.ready .any ops l→a.defers = []→a.tmps.size=ctx.nt→Rel B e w a.tmps σ → O3 ctx ops rf1 fuel (l.setIfInBounds z true) LL σ K1→wpAny P .any ops Q fuel (l.setIfInBounds z true) a w)
  (H2 : ∀fuel l σ a w e,Inv l→rdy rf2 ops l = []→a.defers = []→a.tmps.size=ctx.nt→Rel B e w a.tmps σ → K2 (fuel+1) l σ → ∀j∈Region.ready .any ops l,rf2 j=false→j≠z→wpOp P ops Q j (wpAny P .any ops Q fuel (l.setIfInBounds j true)) a w) :
  ∀(fuel:Nat) (listed:Array Bool) (LL1 LL2:Nat→Locks) (σ : St) (a:Act) (w:World) (e:Env),Inv listed→a.defers = []→a.tmps.size=ctx.nt→Rel B e w a.tmps σ →
  O3 ctx ops rf1 fuel listed LL1 σ K1→O3 ctx ops rf2 fuel listed LL2 σ K2→wpAny P .any ops Q fuel listed a w
 | 0,listed,LL1,LL2,σ,a,w,e,hI,hA,hn,h,hs1,hs2=>(HK _ _ _ hI hs1.2).elim
 |fuel+1,listed,LL1,LL2,σ,a,w,e,hI,hA,hn,h,hs1,hs2=>by
  refine⟨fun h0=>(HK _ _ _ hI (hs1.1 (by rw[rdy,h0];rfl))).elim,fun i hi => ?_⟩
  obtain⟨_,o,ho,_⟩:=mem_ready.1 hi
  cases hr2:rf2 i with
  |true =>
   have hi2:i∈rdy rf2 ops listed:=List.mem_filter.2 ⟨hi,hr2⟩
   obtain⟨hd,hm1⟩:=hs1.2 i (List.mem_filter.2 ⟨hi,hsub i hr2⟩) o ho
   obtain⟨_,hm2⟩:=hs2.2 i hi2 o ho
   have hm:=M.a3e _ (M.M6 _ (Locks.nil_le (LL1 i)) hm1) (M.M6 _ (Locks.nil_le (LL2 i)) hm2)
   refine T4 (L:=⟨[],[]⟩) (c0l hsp _) hty ho hA hn h (a4T (K:=fun σ'=>O3 ctx ops rf1 fuel (listed.setIfInBounds i true) LL1 σ' K1∧O3 ctx ops rf2 fuel (listed.setIfInBounds i true) LL2 σ' K2) hd hm) fun a' w' hat => ?_
   obtain⟨hA',hn',e',σ',h',hs1',hs2'⟩:=hat
   exact b1J hsp hty Inv hInv hsub hz hAll HK H1 H2 fuel _ LL1 LL2 σ' a' w' e' (hInv _ _ hI hi2) hA' hn' h' hs1' hs2'
  |false =>
   by_cases hiz:i=z
   ·subst hiz
    obtain⟨hd,hm1⟩:=hs1.2 i (List.mem_filter.2 ⟨hi,hz⟩) o ho
    refine T4 (L:=LL1 i) (c0l hsp _) hty ho hA hn h (a4T (K:=fun σ'=>O3 ctx ops rf1 fuel (listed.setIfInBounds i true) LL1 σ' K1) hd hm1) fun a' w' hat => ?_
    obtain⟨hA',hn',e',σ',h',hs'⟩:=hat
    exact H1 fuel _ LL1 σ' a' w' e' hI hi hA' hn' h' hs'
   ·rcases hAll _ hI i hi with h1|h1|h1
    ·rw[h1]at hr2
     cases hr2
    ·exact absurd h1 hiz
    ·exact H2 fuel _ σ a w e hI h1 hA hn h (hs2.1 h1) i hi hr2 hiz
theorem Rel.drew {tmps:Array Value} (h:Rel B e w tmps σ):Rel B e { w with drawn:=w.drawn+1 } tmps σ := by
 have hw:Ext w { w with drawn:=w.drawn+1 }:=Ext.drew w
 refine⟨⟨fun k => ?_,h.hr.sOk,h.hr.oOk⟩,⟨h.fr.os,h.fr.tape,h.fr.output,h.fr.sNew,h.fr.size,h.fr.old,h.fr.box⟩,?_,fun t => ?_⟩
 ·refine ChR.mono (w:=w) (w' := { w with drawn:=w.drawn+1 }) (hp := σ.hp) (hp' := σ.hp) (e:=e) (e':=e) (fun b hb=>⟨hb,rfl⟩) (fun k => .same rfl rfl fun b q hb=>⟨hb,rfl⟩) rfl (fun b q hb=>⟨hb,rfl⟩) (h.hr.chs k)
 ·have hs:SR e σ.hp w e σ.hp { w with drawn:=w.drawn+1 }:=⟨fun b hb=>⟨hb,rfl⟩,fun k => .same rfl rfl fun b q hb=>⟨hb,rfl⟩⟩
  exact UpR.mono hs _ _ h.up
 ·have hs:SR e σ.hp w e σ.hp { w with drawn:=w.drawn+1 }:=⟨fun b hb=>⟨hb,rfl⟩,fun k => .same rfl rfl fun b q hb=>⟨hb,rfl⟩⟩
  exact VR.mono hs _ _ (h.tm t)
def a0m (ops:Array Oper) (ls:List Nat):Prop := ∀x∈ls,∀o,ops[x]? = some o → ∀e∈o.after.toList,Region.binds .any e=true→e.on∈ls
theorem a0m.cons {ops:Array Oper} {ls:List Nat} (h:a0m ops ls) {i:Nat} (hi:C0 ops.toList ls i=true):a0m ops (i::ls):=by
 intro x hx o ho e he hb
 rcases List.mem_cons.1 hx with rfl|hx
 ·unfold C0 at hi
  have ho':ops.toList[x]? = some o:=by simpa using ho
  rw[ho']at hi
  simp only[Bool.and_eq_true,Bool.not_eq_true',List.all_eq_true,Bool.or_eq_true]at hi
  rcases hi.2 e he with h1|h1
  ·rw[h1]at hb
   cases hb
  ·exact List.mem_cons_of_mem _ (by simpa using h1)
 ·exact List.mem_cons_of_mem _ (h x hx o ho e he hb)
theorem b1g {ops:Array Oper} {ls:List Nat} (hc:a0m ops ls) : ∀(acc:List (Nat×Nat)) (need:List Nat),b1h ops.toList need acc=true →
  (∀x∈need,∀o,ops[x]? = some o → ∀e∈o.after.toList,Region.binds .any e=true→e.on∈ls) → ∀k F,(k,F)∈acc→k∈ls
 |[],_,_,_,k,F,h=>by cases h
 |(k0,F0)::r,need,hch,hn,k,F,h=>by
  simp only[b1h,Bool.and_eq_true,List.any_eq_true]at hch
  obtain⟨⟨x,hx,hxo⟩,hr⟩:=hch
  have hk0:k0∈ls:=by
   split at hxo
   ·rename_i o ho
    simp only[List.any_eq_true,Bool.and_eq_true,beq_iff_eq]at hxo
    obtain⟨e,he,hb,hon⟩:=hxo
    rw[←hon]
    exact hn x hx o (by simpa using ho) e he hb
   ·cases hxo
  rcases List.mem_cons.1 h with h1|h1
  ·cases h1
   exact hk0
  ·refine b1g hc r (k0::need) hr (fun y hy o ho e he hb => ?_) k F h1
   rcases List.mem_cons.1 hy with rfl|hy
   ·exact hc y hk0 o ho e he hb
   ·exact hn y hy o ho e he hb
theorem Agr.same {ops:Array Oper} {ls ls':List Nat} {l:Array Bool} (h:Agr ops ls l) (h':Agr ops ls' l) (k:Nat):k∈ls↔k∈ls':=by rw[←h.iff,←h'.iff]
theorem a7Y : ∀(p:List (Nat×Nat)) (a b:Nat) (ls:List Nat),A2 (p ++ [(a,b)]) ls=a::A2 p ls
 |[],_,_,_=>rfl
 |(i,F)::r,a,b,ls=>a7Y r a b (i::ls)
theorem T7 {l:List Oper} {ls:List Nat} {j:Nat} (h:C0 l ls j=true):j ∉ ls:=by
 unfold C0 at h
 simp only[Bool.and_eq_true,Bool.not_eq_true']at h
 simpa using h.1
theorem a4d {ops:Array Oper} {ls:List Nat} {j:Nat} (h:C0 ops.toList ls j=true):j<ops.size:=by
 unfold C0 at h
 cases hq:ops.toList[j]? with
 |none=>rw[hq]at h;simp at h
 |some oj =>
  have:ops[j]? = some oj:=by simpa using hq
  exact(Array.getElem?_eq_some_iff.1 this).1
theorem a0r {l:List Oper} {ls ls':List Nat} {j:Nat} (h : ∀k,k∈ls↔k∈ls'):C0 l ls j=C0 l ls' j:=by
 have hc : ∀k,ls.contains k=ls'.contains k:=fun k=>by
  rw[Bool.eq_iff_iff]
  simp only[List.contains_iff_mem]
  exact h k
 unfold C0
 simp only[hc]
theorem a5U {ops:Array Oper} : ∀ {ls ls':List Nat} (p:List (Nat×Nat)),(∀k,k∈ls↔k∈ls')→J8 ops ls p=J8 ops ls' p
 |ls,ls',[],h=>by
  simp only[J8]
  congr 1
  funext j
  rw[a0r h]
 |ls,ls',(i,F)::r,h=>by
  have hc : ∀k,ls.contains k=ls'.contains k:=fun k=>by
   rw[Bool.eq_iff_iff]
   simp only[List.contains_iff_mem]
   exact h k
  have hr : ∀j,C0 ops.toList (ls++(List.range ops.size).filter F.testBit) j=C0 ops.toList (ls'++(List.range ops.size).filter F.testBit) j:=fun j=>a0r fun k=>by simp only[List.mem_append,h]
  simp only[J8,a0r h,hc,hr]
  rw[a5U r (ls:=i::ls) (ls':=i::ls') fun k=>by simp only[List.mem_cons,h]]
theorem b6u {l:List Oper} {ls:List Nat} {i z:Nat} (h:C0 l (z::ls) i=true) (hw:b8r l i z=false):C0 l ls i=true:=by
 have hn:=T7 h
 unfold C0 b8r at *
 simp only[Bool.and_eq_true,Bool.not_eq_true']at *
 refine⟨by simpa using fun hm=>hn (List.mem_cons_of_mem _ hm),?_⟩
 cases hl:l[i]? with
 |none=>rw[hl]at hw;cases hw
 |some o =>
  rw[hl]at h hw
  simp only[List.all_eq_true,Bool.or_eq_true,List.any_eq_false,Bool.and_eq_true,beq_iff_eq,not_and]at *
  intro e he
  by_cases hb:Region.binds .any e=true
  ·right
   rcases h.2 e he with h1|h1
   ·rw[hb]at h1
    cases h1
   ·have h2:e.on=z∨e.on∈ls:=by simpa using h1
    rcases h2 with h2|h2
    ·exact absurd h2 (hw e he hb)
    ·simpa using h2
  ·exact .inl (by simpa using hb)
theorem S4 (hsp:Z4 P ctx.spec) (hcl:ClOk P cl) (hty:TyOk P ctx.ty) {ops:Array Oper} {K:St→Prop} (hk : ∀a w,At B ctx.nt K a w→Q .normal a w) : ∀(plan acc:List (Nat×Nat)) (ls:List Nat) (listed:Array Bool) (fuel:Nat) (σ : St) (a:Act) (w:World) (e:Env),
  Agr ops ls listed→a0m ops ls→acc.length+plan.length≤fuel→J8 ops ls (acc.reverse++plan)=true→M9 ctx L cl ops.toList acc plan σ K→a.defers = []→a.tmps.size=ctx.nt→Rel B e w a.tmps σ → wpAny P .any ops Q fuel listed a w
 |[],acc,ls,listed,fuel,σ,a,w,e,hA,hc,hl,hp,hm,hd,hn,h=>by
  simp only[M9]at hm
  have hall : ∀l,rdy (fun _=>true) ops l=Region.ready .any ops l:=fun l=>List.filter_eq_self.2 fun _ _=>rfl
  refine a0q hsp hty (rf:=fun _=>true) (K:=fun _ _=>K) (fun _=>True) (fun _ _ _ _=>trivial) (fun l _ _ j hj=>by rw[hall];exact hj) (fun fuel l σ a w e _ hr hd hn h hK => ?_) fuel listed (fun _=>⟨[],[]⟩) σ a w e trivial hd hn h
   (W9 (rest := []) acc.reverse ls listed fuel _ σ hA (by simpa using hl) hp (fun _ _ _=>rfl) (fun l' hA'=>by rw[hall];exact b8V hA' (a2C hp)) (fun _ _ _ _ _ hK=>hK) hm)
  rw[hall]at hr
  cases fuel with
  |zero=>exact⟨hr,hk a w ⟨hd,hn,e,σ,h,hK⟩⟩
  |succ fuel=>exact⟨fun _=>hk a w ⟨hd,hn,e,σ,h,hK⟩,fun i hi=>by rw[hr]at hi;cases hi⟩
 |(i,F)::r,acc,ls,listed,fuel,σ,a,w,e,hA,hc,hl,hp,hm,hd,hn,h=>by
  simp only[M9]at hm
  split at hm
  ·rename_i o hin
   unfold c1S at hin
   split at hin
   ·split at hin
    ·rename_i o' ho
     split at hin
     ·rename_i hch
      cases hin
      simp only[Bool.and_eq_true]at hch
      have ho':ops[i]? = some o:=by simpa using ho
      have hp1:=a2C hp
      have hp1':=hp1
      simp only[J8,Bool.and_eq_true]at hp1
      obtain⟨⟨⟨hri,_⟩,hex⟩,hrest⟩:=hp1
      rw[ho']at hex
      simp only[List.all_eq_true,List.mem_range,Bool.or_eq_true,beq_iff_eq]at hex
      have hlt:i<ops.size:=(Array.getElem?_eq_some_iff.1 ho').1
      have hmem : ∀k,k∈A2 acc.reverse ls↔(∃F,(k,F)∈acc)∨k∈ls:=fun k=>by rw[a5b];simp
      have hone : ∀j,C0 ops.toList (A2 acc.reverse ls) j=true→j=i:=by
       intro j hj
       have hjl:j<ops.size:=by
        unfold C0 at hj
        cases hq:ops.toList[j]? with
        |none=>rw[hq]at hj;simp at hj
        |some oj =>
         have:ops[j]? = some oj:=by simpa using hq
         exact(Array.getElem?_eq_some_iff.1 this).1
       have hjn:j ∉ A2 acc.reverse ls:=by
        unfold C0 at hj
        simp only[Bool.and_eq_true,Bool.not_eq_true']at hj
        simpa using hj.1
       rcases hex j hjl with (h1|h1)|h1
       ·exact h1
       ·exact absurd (by simpa using h1) hjn
       ·have he:(List.range ops.size).filter (Nat.testBit 0) = []:=by
         rw[List.filter_eq_nil_iff]
         intro x _
         simp
        simp at h1
        rw[he,List.append_nil,hj]at h1
        cases h1
      let rf:Nat→Bool:=fun k=>acc.any fun q=>q.1==k
      have hrf : ∀k,rf k=true ↔ ∃F,(k,F)∈acc:=fun k=>by
       simp only[rf,List.any_eq_true,beq_iff_eq,Prod.exists]
       constructor
       ·rintro⟨a,b,h1,rfl⟩
        exact⟨b,h1⟩
       ·rintro⟨b,h1⟩
        exact⟨k,b,h1,rfl⟩
      let Inv:Array Bool→Prop:=fun l => ∃lsx,Agr ops lsx l∧a0m ops lsx∧(∀k∈ls,k∈lsx) ∧ ∀k∈lsx,k∈ls ∨ ∃F,(k,F)∈acc
      let Kf:Nat→Array Bool→St→Prop:=fun fuel' l σ1=>Agr ops (A2 acc.reverse ls) l∧fuel=fuel'+acc.length∧a3l ctx L cl ops.toList i o σ1 fun σ2=>M9 ctx L cl ops.toList [] r σ2 K
      refine a0q hsp hty (rf:=rf) (K:=Kf) Inv ?_ ?_ ?_ fuel listed (fun _=>⟨[],[]⟩) σ a w e ⟨ls,hA,hc,fun _ hk=>hk,fun _ hk => .inl hk⟩ hd hn h ?_
      ·rintro l j ⟨lsx,g1,g2,g3,g4⟩ hj
       have hjr:=Z0 hj
       have hjl:j<ops.size:=by
        obtain⟨_,oj,hoj,_⟩:=mem_ready.1 hjr
        exact(Array.getElem?_eq_some_iff.1 hoj).1
       refine⟨j::lsx,g1.cons hjl,g2.cons ((g1.ready j).1 hjr),fun k hk=>List.mem_cons_of_mem _ (g3 k hk),fun k hk => ?_⟩
       rcases List.mem_cons.1 hk with rfl|hk
       ·exact .inr ((hrf k).1 (List.mem_filter.1 hj).2)
       ·exact g4 k hk
      ·rintro l ⟨lsx,g1,g2,g3,g4⟩ hne j hj
       refine List.mem_filter.2 ⟨hj,?_⟩
       cases hrj:rf j with
       |true=>rfl
       |false =>
        exfalso
        have hjr:=(g1.ready j).1 hj
        have hjn:j ∉ lsx:=by
         unfold C0 at hjr
         simp only[Bool.and_eq_true,Bool.not_eq_true']at hjr
         simpa using hjr.1
        have hjp:j ∉ A2 acc.reverse ls:=fun hm=>by
         rcases(hmem j).1 hm with h1|h1
         ·rw[(hrf j).2 h1]at hrj
          cases hrj
         ·exact hjn (g3 j h1)
        have hji:=hone j (Z7 hjr (fun k hk=>(hmem k).2 ((g4 k hk).symm)) hjp)
        subst hji
        have hacc:=b1g g2 acc [j] hch.2 (fun x hx o2 ho2 e2 he2 hb2=>by
         rw[List.mem_singleton]at hx
         subst hx
         obtain⟨_,o3,ho3,h3⟩:=mem_ready.1 hj
         rw[ho3]at ho2
         cases ho2
         exact(g1.iff _).1 (h3 e2 (by simpa using he2) hb2))
        refine hne ?_
        rw[List.eq_nil_iff_forall_not_mem]
        intro k hk
        obtain⟨F',hF'⟩:=(hrf k).1 (List.mem_filter.1 hk).2
        have hkr:=(g1.ready k).1 (Z0 hk)
        unfold C0 at hkr
        simp only[Bool.and_eq_true,Bool.not_eq_true']at hkr
        exact absurd (hacc k F' hF') (by simpa using hkr.1)
      ·rintro fuel' l σ1 a1 w1 e1 ⟨lsx,g1,g2,g3,g4⟩ hr0 hd1 hn1 h1 ⟨k1,k2,k3⟩
       have hready:i∈Region.ready .any ops l:=(k1.ready i).2 hri
       obtain⟨f,rfl⟩ : ∃f,fuel'=f+1:=⟨fuel'-1,by simp only[List.length_cons]at hl;omega⟩
       refine⟨fun h0=>(by rw[h0]at hready;cases hready),fun j hj => ?_⟩
       have hji:=hone j ((k1.ready j).1 hj)
       subst hji
       refine T4 hcl hty ho' hd1 hn1 h1 k3 fun a2 w2 hat => ?_
       obtain⟨hd2,hn2,e2,σ2,h2,hm2⟩:=hat
       have hc1:a0m ops (A2 acc.reverse ls):=fun x hx o2 ho2 e3 he3 hb3=>(g1.same k1 _).1 (g2 x ((g1.same k1 x).2 hx) o2 ho2 e3 he3 hb3)
       exact S4 hsp hcl hty hk r [] (j::A2 acc.reverse ls) _ f σ2 a2 w2 e2 (k1.cons hlt) (hc1.cons hri) (by simp only[List.length_cons]at hl;simp;omega) hrest hm2 hd2 hn2 h2
      ·refine W9 (rest:=(i,0)::r) acc.reverse ls listed fuel _ σ hA (by simp only[List.length_cons]at hl;simp;omega) hp (fun k F hk=>(hrf k).2 ⟨F,by simpa using hk⟩) (fun l' hA' => ?_) (fun l' f' σ' g1 g2 g3=>⟨g1,by simpa using g2,g3⟩) hm
       rw[List.eq_nil_iff_forall_not_mem]
       intro k hk
       obtain⟨F',hF'⟩:=(hrf k).1 (List.mem_filter.1 hk).2
       have hkr:=(hA'.ready k).1 (Z0 hk)
       unfold C0 at hkr
       simp only[Bool.and_eq_true,Bool.not_eq_true']at hkr
       exact absurd ((hmem k).2 (.inl ⟨F',hF'⟩)) (by simpa using hkr.1)
     ·cases hin
    ·cases hin
   ·cases hin
  ·split at hm
   ·rename_i o z A htw
    unfold c0C at htw
    split at htw
    ·split at htw
     ·rename_i acc z0 A0
      split at htw
      ·rename_i o' ho
       split at htw
       ·rename_i hch
        cases htw
        simp only[Bool.and_eq_true,Bool.not_eq_true']at hch
        obtain⟨⟨_,hchain⟩,hwait⟩:=hch
        obtain⟨zi,Fz⟩:=z
        obtain⟨hmA,hmB⟩:=hm
        have ho':ops[i]? = some o:=by simpa using ho
        have hpl:J8 ops ls (A.reverse++((zi,Fz)::(i,0)::r))=true:=by simpa using hp
        have hp0:=a2C hpl
        have hp0':=hp0
        simp only[J8,Bool.and_eq_true]at hp0
        obtain⟨⟨⟨hrz,hFz⟩,hexz⟩,⟨⟨hri,_⟩,hex⟩,hrest⟩:=hp0
        rw[ho']at hex
        simp only[List.all_eq_true,List.mem_range,Bool.or_eq_true,beq_iff_eq]at hex
        have hlt:i<ops.size:=(Array.getElem?_eq_some_iff.1 ho').1
        have hls:A2 ((zi,Fz)::A).reverse ls=zi::A2 A.reverse ls:=by
         rw[List.reverse_cons,a7Y]
        have hmemA : ∀k,k∈A2 A.reverse ls↔(∃F,(k,F)∈A)∨k∈ls:=fun k=>by rw[a5b];simp
        have hzn:zi ∉ A2 A.reverse ls:=T7 hrz
        have hin:i ∉ zi::A2 A.reverse ls:=T7 hri
        have hzlt:zi<ops.size:=a4d hrz
        have hriA:C0 ops.toList (A2 A.reverse ls) i=true:=b6u hri hwait
        have hone : ∀j,C0 ops.toList (zi::A2 A.reverse ls) j=true→j=i:=by
         intro j hj
         rcases hex j (a4d hj)with (h1|h1)|h1
         ·exact h1
         ·exact absurd (by simpa using h1) (T7 hj)
         ·have he:(List.range ops.size).filter (Nat.testBit 0) = []:=by
           rw[List.filter_eq_nil_iff]
           intro x _
           simp
          simp at h1
          rw[he,List.append_nil,hj]at h1
          cases h1
        have hp2:J8 ops (i::A2 A.reverse ls) ((zi,Fz)::r)=true:=by
         simp only[J8,Bool.and_eq_true]
         refine⟨⟨⟨Z7 hrz (fun k hk=>List.mem_cons_of_mem _ hk) (fun hm => ?_),hFz⟩,?_⟩,?_⟩
         ·rcases List.mem_cons.1 hm with h1|h1
          ·exact hin (h1▸List.mem_cons_self)
          ·exact hzn h1
         ·cases hoz:ops[zi]? with
          |none=>rw[hoz]at hexz;cases hexz
          |some oz =>
           rw[hoz]at hexz
           simp only[List.all_eq_true,List.mem_range,Bool.or_eq_true,beq_iff_eq]at hexz ⊢
           intro j hj
           by_cases hji:j=i
           ·exact .inl (.inr (by simp[hji]))
           rcases hexz j hj with (h1|h1)|h1
           ·exact .inl (.inl h1)
           ·exact .inl (.inr (by simp only[List.contains_iff_mem]at h1 ⊢;exact List.mem_cons_of_mem _ h1))
           ·right
            split
            ·rename_i hb
             rw[if_pos hb]at h1
             exact h1
            ·rename_i hb
             rw[if_neg hb]at h1
             have hiF:Fz.testBit i=true:=by
              rcases hexz i hlt with (h2|h2)|h2
              ·exact absurd (h2▸List.mem_cons_self) hin
              ·exact absurd (List.mem_cons_of_mem _ (by simpa using h2)) hin
              ·split at h2
               ·assumption
               ·rename_i hb2
                exfalso
                have:=Z7 (ls':=A2 A.reverse ls++(List.range ops.size).filter Fz.testBit) hriA (fun k hk=>List.mem_append_left _ hk) (fun hm=>by
                 rcases List.mem_append.1 hm with h3|h3
                 ·exact hin (List.mem_cons_of_mem _ h3)
                 ·exact hb2 (List.mem_filter.1 h3).2)
                rw[this]at h2
                cases h2
             have hsame:C0 ops.toList (i::A2 A.reverse ls++(List.range ops.size).filter Fz.testBit) j=C0 ops.toList (A2 A.reverse ls++(List.range ops.size).filter Fz.testBit) j:=a0r fun k=>by
              simp only[List.cons_append,List.mem_cons,List.mem_append,List.mem_filter,List.mem_range]
              constructor
              ·rintro(rfl|h3)
               ·exact .inr ⟨hlt,hiF⟩
               ·exact h3
              ·exact .inr
             rw[hsame]
             exact h1
         ·rw[a5U (ls':=i::zi::A2 A.reverse ls) r fun k=>by simp only[List.mem_cons];constructor<;>(rintro(h1|h1|h1)<;>simp[h1])]
          exact hrest
        let rf1:Nat→Bool:=fun k=>((zi,Fz)::A).any fun q=>q.1==k
        let rf2:Nat→Bool:=fun k=>A.any fun q=>q.1==k
        have hrf2 : ∀k,rf2 k=true ↔ ∃F,(k,F)∈A:=fun k=>by
         simp only[rf2,List.any_eq_true,beq_iff_eq,Prod.exists]
         constructor
         ·rintro⟨a,b,h1,rfl⟩
          exact⟨b,h1⟩
         ·rintro⟨b,h1⟩
          exact⟨k,b,h1,rfl⟩
        have hrf1 : ∀k,rf1 k=true↔k=zi ∨ ∃F,(k,F)∈A:=fun k=>by
         simp only[rf1,List.any_cons,Bool.or_eq_true,beq_iff_eq]
         rw[show(A.any fun q=>q.1==k)=rf2 k from rfl,hrf2]
         constructor
         ·rintro(h1|h1)
          ·exact .inl h1.symm
          ·exact .inr h1
         ·rintro(h1|h1)
          ·exact .inl h1.symm
          ·exact .inr h1
        let Inv:Array Bool→Prop:=fun l => ∃lsx,Agr ops lsx l∧a0m ops lsx∧(∀k∈ls,k∈lsx) ∧ ∀k∈lsx,k∈ls ∨ ∃F,(k,F)∈A
        let Inv1:Array Bool→Prop:=fun l => ∃lsx,Agr ops lsx l∧a0m ops lsx∧(∀k∈ls,k∈lsx)∧(∀k∈lsx,k∈ls∨k=zi ∨ ∃F,(k,F)∈A)∧zi∈lsx
        let K1:Nat→Array Bool→St→Prop:=fun fuel' l σ1=>Agr ops (zi::A2 A.reverse ls) l∧fuel=fuel'+(A.length+1)∧a3l ctx L cl ops.toList i o σ1 fun σ2=>M9 ctx L cl ops.toList [] r σ2 K
        let K2:Nat→Array Bool→St→Prop:=fun fuel' l σ1=>Agr ops (A2 A.reverse ls) l∧fuel=fuel'+A.length∧a3l ctx L cl ops.toList i o σ1 fun σ2=>M9 ctx L cl ops.toList [(zi,Fz)] r σ2 K
        have hcall : ∀ {l:Array Bool} {lsx:List Nat},Agr ops lsx l→a0m ops lsx→(∀k∈ls,k∈lsx)→(∀k∈lsx,k∈ls∨k=zi ∨ ∃F,(k,F)∈A) → ∀j∈Region.ready .any ops l,rf2 j=false→j≠zi→j=i ∧ ∀k F,(k,F)∈A→k∈lsx:=by
         intro l lsx g1 g2 g3 g4 j hj hrj hjz
         have hjr:=(g1.ready j).1 hj
         have hjn:=T7 hjr
         have hjp:j ∉ zi::A2 A.reverse ls:=fun hm=>by
          rcases List.mem_cons.1 hm with h1|h1
          ·exact hjz h1
          ·rcases(hmemA j).1 h1 with h2|h2
           ·rw[(hrf2 j).2 h2]at hrj
            cases hrj
           ·exact hjn (g3 j h2)
         have hji:=hone j (Z7 hjr (fun k hk=>by
          rcases g4 k hk with h1|h1|h1
          ·exact List.mem_cons_of_mem _ ((hmemA k).2 (.inr h1))
          ·rw[h1];exact List.mem_cons_self
          ·exact List.mem_cons_of_mem _ ((hmemA k).2 (.inl h1))) hjp)
         refine⟨hji,?_⟩
         subst hji
         exact b1g g2 A [j] hchain (fun x hx o2 ho2 e2 he2 hb2=>by
          rw[List.mem_singleton]at hx
          subst hx
          obtain⟨_,o3,ho3,h3⟩:=mem_ready.1 hj
          rw[ho3]at ho2
          cases ho2
          exact(g1.iff _).1 (h3 e2 (by simpa using he2) hb2))
        have hnone : ∀ {l:Array Bool} {lsx:List Nat},Agr ops lsx l→(∀k F,(k,F)∈A→k∈lsx)→rdy rf2 ops l = []:=by
         intro l lsx g1 hacc
         rw[List.eq_nil_iff_forall_not_mem]
         intro k hk
         obtain⟨F',hF'⟩:=(hrf2 k).1 (List.mem_filter.1 hk).2
         exact T7 ((g1.ready k).1 (Z0 hk)) (hacc k F' hF')
        have hnone1 : ∀ {l:Array Bool} {lsx:List Nat},Agr ops lsx l→(∀k F,(k,F)∈A→k∈lsx)→zi∈lsx→rdy rf1 ops l = []:=by
         intro l lsx g1 hacc hzi
         rw[List.eq_nil_iff_forall_not_mem]
         intro k hk
         have hkn:=T7 ((g1.ready k).1 (Z0 hk))
         rcases(hrf1 k).1 (List.mem_filter.1 hk).2 with rfl|⟨F',hF'⟩
         ·exact hkn hzi
         ·exact hkn (hacc k F' hF')
        have hlen:A.length+1+(r.length+1)≤fuel:=by simpa using hl
        refine b1J hsp hty (rf1:=rf1) (rf2:=rf2) (z:=zi) (K1:=K1) (K2:=K2) Inv ?_ (fun j hj=>(hrf1 j).2 (.inr ((hrf2 j).1 hj))) ((hrf1 zi).2 (.inl rfl)) ?_ ?_ ?_ ?_ fuel listed (fun _=>⟨[],[]⟩) (fun _=>⟨[],[]⟩) σ a w e ⟨ls,hA,hc,fun _ hk=>hk,fun _ hk => .inl hk⟩ hd hn h ?_ ?_
        ·rintro l j ⟨lsx,g1,g2,g3,g4⟩ hj
         have hjr:=(g1.ready j).1 (Z0 hj)
         refine⟨j::lsx,g1.cons (a4d hjr),g2.cons hjr,fun k hk=>List.mem_cons_of_mem _ (g3 k hk),fun k hk => ?_⟩
         rcases List.mem_cons.1 hk with rfl|hk
         ·exact .inr ((hrf2 k).1 (List.mem_filter.1 hj).2)
         ·exact g4 k hk
        ·rintro l ⟨lsx,g1,g2,g3,g4⟩ j hj
         cases hrj:rf2 j with
         |true=>exact .inl rfl
         |false =>
          by_cases hjz:j=zi
          ·exact .inr (.inl hjz)
          ·exact .inr (.inr (hnone g1 (hcall g1 g2 g3 (fun k hk=>(g4 k hk).imp id .inr) j hj hrj hjz).2))
        ·rintro f1 l σ1 ⟨lsx,g1,g2,g3,g4⟩ ⟨k1,_,_⟩
         have hzl:zi∈lsx:=(g1.same k1 zi).2 List.mem_cons_self
         exact hzn ((hmemA zi).2 ((g4 zi hzl).symm))
        ·rintro fuel' l LL σ1 a1 w1 e1 ⟨lsx,g1,g2,g3,g4⟩ hzr hd1 hn1 h1 hs1
         have hzr':=(g1.ready zi).1 hzr
         refine a0q hsp hty (rf:=rf1) (K:=K1) Inv1 ?_ ?_ ?_ fuel' _ LL σ1 a1 w1 e1 ⟨zi::lsx,g1.cons hzlt,g2.cons hzr',fun k hk=>List.mem_cons_of_mem _ (g3 k hk),fun k hk => ?_,List.mem_cons_self⟩ hd1 hn1 h1 hs1
         ·rintro l2 j ⟨ly,q1,q2,q3,q4,q5⟩ hj
          have hjr:=(q1.ready j).1 (Z0 hj)
          refine⟨j::ly,q1.cons (a4d hjr),q2.cons hjr,fun k hk=>List.mem_cons_of_mem _ (q3 k hk),fun k hk => ?_,List.mem_cons_of_mem _ q5⟩
          rcases List.mem_cons.1 hk with rfl|hk
          ·exact .inr ((hrf1 k).1 (List.mem_filter.1 hj).2)
          ·exact q4 k hk
         ·rintro l2 ⟨ly,q1,q2,q3,q4,q5⟩ hne j hj
          refine List.mem_filter.2 ⟨hj,?_⟩
          cases hrj:rf1 j with
          |true=>rfl
          |false =>
           exfalso
           have hjz:j≠zi:=fun he=>by rw[(hrf1 j).2 (.inl he)]at hrj;cases hrj
           have hrj2:rf2 j=false:=by
            cases hq:rf2 j with
            |false=>rfl
            |true=>rw[(hrf1 j).2 (.inr ((hrf2 j).1 hq))]at hrj;cases hrj
           exact hne (hnone1 q1 (hcall q1 q2 q3 q4 j hj hrj2 hjz).2 q5)
         ·rintro f2 l2 σ2 a2 w2 e2 ⟨ly,q1,q2,q3,q4,q5⟩ hr0 hd2 hn2 h2 ⟨k1,k2,k3⟩
          have hready:i∈Region.ready .any ops l2:=(k1.ready i).2 hri
          obtain⟨f,rfl⟩ : ∃f,f2=f+1:=⟨f2-1,by omega⟩
          refine⟨fun h0=>(by rw[h0]at hready;cases hready),fun j hj => ?_⟩
          have hji:=hone j ((k1.ready j).1 hj)
          subst hji
          refine T4 hcl hty ho' hd2 hn2 h2 k3 fun a3 w3 hat => ?_
          obtain⟨hd3,hn3,e3,σ3,h3,hm3⟩:=hat
          have hc1:a0m ops (zi::A2 A.reverse ls):=fun x hx o2 ho2 e4 he4 hb4=>(q1.same k1 _).1 (q2 x ((q1.same k1 x).2 hx) o2 ho2 e4 he4 hb4)
          exact S4 hsp hcl hty hk r [] (j::zi::A2 A.reverse ls) _ f σ3 a3 w3 e3 (k1.cons hlt) (hc1.cons hri) (by simp;omega) hrest hm3 hd3 hn3 h3
         ·rcases List.mem_cons.1 hk with rfl|hk
          ·exact .inr (.inl rfl)
          ·exact(g4 k hk).imp id .inr
        ·rintro fuel' l σ1 a1 w1 e1 ⟨lsx,g1,g2,g3,g4⟩ hr0 hd1 hn1 h1 ⟨k1,k2,k3⟩ j hj hrj hjz
         have hji:=(hcall g1 g2 g3 (fun k hk=>(g4 k hk).imp id .inr) j hj hrj hjz).1
         subst hji
         refine T4 hcl hty ho' hd1 hn1 h1 k3 fun a2 w2 hat => ?_
         obtain⟨hd2,hn2,e2,σ2,h2,hm2⟩:=hat
         have hc1:a0m ops (A2 A.reverse ls):=fun x hx o2 ho2 e3 he3 hb3=>(g1.same k1 _).1 (g2 x ((g1.same k1 x).2 hx) o2 ho2 e3 he3 hb3)
         exact S4 hsp hcl hty hk r [(zi,Fz)] (j::A2 A.reverse ls) _ fuel' σ2 a2 w2 e2 (k1.cons hlt) (hc1.cons hriA) (by simp;omega) (by simpa using hp2) hm2 hd2 hn2 h2
        ·refine W9 (rest:=(i,0)::r) ((zi,Fz)::A).reverse ls listed fuel _ σ hA (by simp;omega) (by simpa using hp) (fun k F hk=>(hrf1 k).2 ?_) (fun l' hA' => ?_) (fun l' f' σ' g1 g2 g3=>⟨hls▸g1,by simpa using g2,g3⟩) hmA
         ·simp only[List.mem_reverse,List.mem_cons,Prod.mk.injEq]at hk
          exact hk.imp And.left fun h1=>⟨F,h1⟩
         ·rw[hls]at hA'
          exact hnone1 hA' (fun k F hF=>List.mem_cons_of_mem _ ((hmemA k).2 (.inl ⟨F,hF⟩))) List.mem_cons_self
        ·refine W9 (rest:=(zi,Fz)::(i,0)::r) A.reverse ls listed fuel _ σ hA (by simp;omega) hpl (fun k F hk=>(hrf2 k).2 ⟨F,by simpa using hk⟩) (fun l' hA'=>hnone hA' fun k F hF=>(hmemA k).2 (.inl ⟨F,hF⟩)) (fun l' f' σ' g1 g2 g3=>⟨g1,by simpa using g2,g3⟩) hmB
       ·cases htw
      ·cases htw
     ·cases htw
    ·cases htw
   ·exact S4 hsp hcl hty hk r ((i,F)::acc) ls listed fuel σ a w e hA hc (by simp only[List.length_cons]at hl ⊢;omega) (by simpa using hp) hm hd hn h
theorem b1b {ops:List Oper} (hn:ops.any (b7v ctx)=false) {K:St→Prop} {σ : St} : ∀(plan acc:List (Nat×Nat)),M9 ctx L cl ops acc plan σ K=a1H ctx ops (acc.reverse++plan) (fun _=>⟨[],[]⟩) σ K
 |[],acc=>by simp[M9]
 |(i,F)::r,acc=>by
  have hno : ∀o,ops[i]? = some o→b7v ctx o=false:=fun o ho=>by
   have:=List.any_eq_false.1 hn o (List.mem_of_getElem? ho)
   simpa using this
  have h1:c1S ctx ops acc i F=none:=by
   unfold c1S
   split
   ·split
    ·rename_i o ho
     rw[hno o ho]
     rfl
    ·rfl
   ·rfl
  have h2:c0C ctx ops acc i F=none:=by
   unfold c0C
   split
   ·split
    ·split
     ·rename_i o ho
      rw[hno o ho]
      rfl
     ·rfl
    ·rfl
   ·rfl
  rw[M9,h1]
  simp only[h2]
  rw[b1b hn r ((i,F)::acc)]
  simp
theorem c0e (hm:P.follows .mixedOrders=true) (hsp:Z4 P ctx.spec) (hcl:ClOk P cl) (hty:TyOk P ctx.ty) {id:Nat} {ops:Array Oper} {K:St→Prop} (hA:a.defers = []) (hn:a.tmps.size=ctx.nt) (h:Rel B e w a.tmps σ) (hp:(decide ((ctx.plan id).length≤ops.size)&&J8 ops [] (ctx.plan id))=true)
  (hv:b8s ctx L cl id ops.toList σ K) (hk : ∀a w,At B ctx.nt K a w→Q .normal a w):(Code.region id ops true).wp P Q a w:=by
 simp only[Bool.and_eq_true,decide_eq_true_eq]at hp
 have hv:M9 ctx L cl ops.toList [] (ctx.plan id) σ K:=by
  unfold b8s at hv
  split at hv
  ·exact hv
  ·rename_i hn
   rw[b1b hn]
   exact hv
 refine wp_region_any hm (S4 hsp hcl hty hk (ctx.plan id) [] [] (Array.replicate ops.size false) ops.size σ a _ e ⟨by simp,fun k hk=>by simp at hk,fun k => ?_⟩ (fun x hx=>by cases hx) (by simpa using hp.1) (by simpa using hp.2) hv hA hn h.drew)
 simp only[Array.getD_eq_getD_getElem?,Array.getElem?_replicate]
 split<;>simp
end
end Go.Sx
namespace Go.Sx
section
variable {P:Program} {ctx:Ctx} {B:Base} {e e':Env} {a:Act} {w w':World} {σ τ : St} {o:Oper} {Q:Exit→Act→World→Prop} {L:Locks} {hp hp':Hp} {cl:CallT}
theorem Rep.c1L {S:Nat→Prop} (t:RT):Rep S w (.slice none 0 0) (.list t fun _ => []) := .nil t _ rfl
theorem c1p {key:Nat} {t:RT} {l:Th (List t.ty)} {K:C→Hp→Prop} (hm:(rowC key t l).wp L hp K) :
  keeps (hp.get key) ((hp.get key).1+1,.row true 0 t l)=true∧K (.own key ((hp.get key).1+1)) (hp.set key ((hp.get key).1+1,.row true 0 t l)):=by
 unfold rowC at hm
 replace hm:=M.u4 hm
 exact M.D3 hm
theorem b5B (h:HR e hp w) {k key:Nat} (hkk:k≠key) (hd:(hp.get k).2 = .dead) {v:Value} {t:RT} {l:Th (List t.ty)} (hown:OwnA e.om k w [] v (.list t l)) (hk:keeps (hp.get key) ((hp.get key).1+1,.row true 0 t l)=true) :
  ∃e',Stp e hp w e' (hp.set key ((hp.get key).1+1,.row true 0 t l)) w∧e'.E key=v:=by
 refine⟨e.mv key none v (fun k' q=>if k'=k then some q else none),Y7 h key v _ none _ (Nat.lt_succ_self _) hk (fun k' q p hg => ?_) rfl rfl rfl (Nat.le_refl _) (fun b hb=>by cases hb) (fun b _ => .inl rfl) (fun _ => ?_),by simp[Env.mv]⟩
 ·split at hg
  ·rename_i he;rw[he];exact hd
  ·cases hg
 ·show OwnA _ key w [] _ _
  have hE:(e.mv key none v (fun k' q=>if k'=k then some q else none)).E key=v:=by simp[Env.mv]
  rw[hE]
  refine hown.mono [] fun b r hb=>⟨?_,rfl⟩
  simp only[List.nil_append]at hb ⊢
  exact Env.a4E (by simp) hb (by simp)
theorem c5U (h:HR e hp w) {key:Nat} {t:RT} (hk:keeps (hp.get key) ((hp.get key).1+1,.row true 0 t fun _ => [])=true) :
  ∃e',Stp e hp w e' (hp.set key ((hp.get key).1+1,.row true 0 t fun _ => [])) w∧e'.E key = .slice none 0 0:=by
 refine⟨e.mv key none (.slice none 0 0) (fun _ _=>none),Y7 h key _ _ none _ (Nat.lt_succ_self _) hk (fun k' q p hg=>by cases hg) rfl rfl rfl (Nat.le_refl _) (fun b hb=>by cases hb) (fun b _ => .inl rfl) (fun _ => ?_),by simp[Env.mv]⟩
 show OwnA _ key w [] _ _
 have hE:(e.mv key none (.slice none 0 0) (fun _ _=>none)).E key = .slice none 0 0:=by simp[Env.mv]
 rw[hE]
 exact .nil _ _ _ rfl
theorem c9O {key:Nat} {t:RT} {l:Th (List t.ty)} {K:C→Hp→Prop} (hm:(rowS key t l).wp L hp K) :
  keeps (hp.get key) ((hp.get key).1+1,.row false 0 t l)=true∧K (.own key ((hp.get key).1+1)) (hp.set key ((hp.get key).1+1,.row false 0 t l)):=by
 unfold rowS at hm
 replace hm:=M.u4 hm
 exact M.D3 hm
theorem c3a (h:HR e hp w) {key:Nat} {t:RT} (hk:keeps (hp.get key) ((hp.get key).1+1,.row false 0 t fun _ => [])=true) :
  ∃e',Stp e hp w e' (hp.set key ((hp.get key).1+1,.row false 0 t fun _ => [])) w∧e'.E key = .slice none 0 0:=by
 refine⟨e.mv key none (.slice none 0 0) (fun _ _=>none),Y7 h key _ _ none _ (Nat.lt_succ_self _) hk (fun k' q p hg=>by cases hg) rfl rfl rfl (Nat.le_refl _) (fun b hb=>by cases hb) (fun b _ => .inl rfl) (fun _ => ?_),by simp[Env.mv]⟩
 show ChR _ _ w key (.row false 0 t fun _ => [])
 have hE:(e.mv key none (.slice none 0 0) (fun _ _=>none)).E key = .slice none 0 0:=by simp[Env.mv]
 exact .inl ⟨hE,rfl⟩
def Env.low (e:Env) (k:Nat):Env where
 S:=fun b=>e.S b ∨ ∃x q,e.om b=some (k,x::q)
 om:=fun b=>match e.om b with
  |some (k',q)=>if k'=k∧q ≠ []then none else some (k',q)
  |none=>none
 E:=e.E
theorem d0I {b k k':Nat} {q:Path} (h:e.om b=some (k',q)) (hn:k'≠k):(e.low k).om b=some (k',q):=by
 simp[Env.low,h,hn]
theorem d0H {b k:Nat} (h:e.om b=some (k,[])):(e.low k).om b=some (k,[]):=by
 simp[Env.low,h]
theorem b7i {b k:Nat} (h:e.om b=none):(e.low k).om b=none:=by
 simp[Env.low,h]
theorem c7D {b k:Nat} {x:Nat×Path} (h:(e.low k).om b=some x):e.om b=some x:=by
 simp only[Env.low]at h
 split at h
 ·rename_i k' q ho
  split at h
  ·cases h
  ·rw[ho];exact h
 ·cases h
theorem c5W (h:HR e hp w) {k ver g:Nat} {t:RT} {l:Th (List t.ty)} (hx:hp.get k=(ver,.row true g t l)):Stp e hp w (e.low k) (hp.set k (ver,.row false (g+1) t l)) w:=by
 have hch:=h.chs k
 rw[hx]at hch
 have hom : ∀k' b q,k'≠k→e.om b=some (k',q)→(e.low k).om b=some (k',q)∧w.heap[b]? = w.heap[b]? := fun k' b q hne hb=>⟨d0I hb hne,rfl⟩
 have hkr : ∀k',KR e hp w (e.low k) (hp.set k (ver,.row false (g+1) t l)) w k':=fun k'=>by
  by_cases hkk:k'=k
  ·subst hkk
   refine .upd (by rw[Tr.e8,hx]) rfl ?_
   rw[Tr.e8,hx]
   exact .row _ _ _ _ _ _ _ (Nat.lt_succ_self g)
  ·exact .same (Tr.j7 _ _ hkk) rfl fun b q hb=>hom k' b q hkk hb
 have hsr:SR e hp w (e.low k) (hp.set k (ver,.row false (g+1) t l)) w:=⟨fun b hb=>⟨.inl hb,rfl⟩,hkr⟩
 refine⟨h.step hsr (fun k' => ?_) (fun b hb => ?_) (fun b x hb=>h.oOk b x (c7D hb)),hsr,⟨rfl,rfl,rfl,fun b hb => ?_,Nat.le_refl _,fun b _ ho=>⟨rfl,b7i ho⟩,fun b k' off n cs arr T h1 h2 h3 h4 h5 => ?_⟩⟩
 ·by_cases hkk:k'=k
  ·subst hkk
   right
   rw[Tr.e8]
   have hown:OwnA e.om k' w [] (e.E k') (.list t l):=hch
   show ChR (e.low k') _ w k' (.row false (g+1) t l)
   rcases OwnA.list hown with h1|⟨b,cap,cs,T,vs,as,h1,h2,h3⟩
   ·exact .inl h1
   ·refine .inr ⟨b,cap,cs,T,vs,as,h1,d0H h2,fun i j hi hj => ?_⟩
    refine OwnA.rep (h3 i j hi hj) fun b' r hb'=>⟨.inr ⟨(i,j),r,?_⟩,rfl⟩
    simpa using hb'
  ·exact .inl ⟨Tr.j7 _ _ hkk,rfl,fun b q hb=>hom k' b q hkk hb⟩
 ·rcases hb with hb|⟨x,q,hb⟩
  ·obtain⟨h1,h2⟩:=h.sOk b hb
   exact⟨b7i h1,h2⟩
  ·exact⟨by simp[Env.low,hb],h.oOk b _ hb⟩
 ·rcases hb with hb|⟨x,q,hb⟩
  ·exact .inl hb
  ·exact .inr (.inl (by rw[hb];simp))
 ·have hkk:k'≠k:=by
   rintro rfl
   rw[hx]at h3
   cases h3
  exact⟨(hom k' b [] hkk h1).1,rfl,⟨cs,by rw[Tr.j7 _ _ hkk];exact h3,D7 cs⟩,arr,h5,rfl,fun _ _=>rfl⟩
theorem a1a {key ver:Nat} {x:Ch} {v:Value} (hE:e.E key=v):CR e (hp.set key (ver,x)) w v (.own key ver):=by
 simp only[CR,Tr.e8]
 exact⟨Nat.le_refl _,fun _=>hE.symm⟩
theorem a3t (h:HR e hp w) {p:Prep} {c:C} {v:Value} (hc:CR e hp w v c) (h1:y8 c v) {K:C→Hp→Prop} (hm:(a7W p c).wp L hp K) :
  ∃e' hp' c',Stps e hp w e' hp' w∧CR e' hp' w v c'∧Sx.one v∧K c' hp':=by
 unfold a7W at hm
 split at hm
 ·split at hm
  ·exact⟨e,hp,_,.refl _ _ _,hc,h1,hm⟩
  ·simp only[CR]at hc
   refine⟨e,hp,_,.refl _ _ _,?_,h1,hm⟩
   simp only[CR]
   rw[hc]
   exact Rep.c1L _
  ·rename_i k ver
   rw[M.wp_bind]at hm
   obtain⟨e1,hp1,hst,hm,hro,_,_⟩:=S3 _ _ _ _ h hm
   rw[M.wp_bind]at hm
   have hr1:=hst.hr h
   obtain⟨t,l,hl,hm⟩:=U6 hr1 (hst.CR hc) hm
   refine⟨e1,hp1,_,hst,?_,h1,hm⟩
   simp only[CR]
   have hisro:=hro k ver (by simp)
   cases hl with
   |row k ver g dp hx hv hch=>rw[hx]at hisro;exact hisro.elim
   |ro k ver hx hv hrep=>exact hrep
  ·exact hm.elim
 ·rename_i key hkey
  split at hm
  ·split at hm
   ·simp only[CR]at hc
    obtain⟨hk,hK⟩:=c9O hm
    obtain⟨e',hst,hE⟩:=c3a h hk
    exact⟨e',_,_,.one hst,a1a (by rw[hE,hc]),h1,hK⟩
   ·rename_i k ver
    replace hm:=M.u4 hm
    split at hm
    ·rename_i v' g t l hx
     split at hm
     ·rename_i hv
      obtain⟨rfl,_⟩:=hv
      replace hm:=M.D3 hm
      obtain⟨_,hm⟩:=hm
      have hst:=c5W h hx
      exact⟨_,_,_,.one hst,(Stps.one hst).CR hc,h1,hm⟩
     ·exact hm.elim
    ·split at hm
     ·exact⟨e,hp,_,.refl _ _ _,hc,h1,hm⟩
     ·exact hm.elim
    ·exact hm.elim
   ·exact hm.elim
  split at hm
  ·simp only[CR]at hc
   obtain⟨hk,hK⟩:=c1p hm
   obtain⟨e',hst,hE⟩:=c5U h hk
   exact⟨e',_,_,.one hst,a1a (by rw[hE,hc]),h1,hK⟩
  ·rename_i k ver
   replace hm:=M.u4 hm
   have hch:=h.chs k
   split at hm
   ·rename_i v' g t l hx
    split at hm
    ·rename_i hv
     subst hv
     split at hm
     ·exact⟨e,hp,_,.refl _ _ _,hc,h1,hm⟩
     ·rename_i hkk
      replace hm:=M.D3 hm
      obtain⟨hk,hm⟩:=hm
      rw[hx]at hch
      simp only[CR,hx]at hc
      have hEv:=hc.2 trivial
      have hst:=Q0 h k (ver+1) (by rw[hx];exact Nat.lt_succ_self _) hk
      obtain⟨hk2,hK⟩:=c1p hm
      have hown:OwnA e.om k w [] (e.E k) (.list t l):=hch
      obtain⟨e',hst2,hE⟩:=b5B hst.1 hkk (by rw[Tr.e8]) hown hk2
      exact⟨e',_,_,(Stps.one hst).trans (.one hst2),a1a (by rw[hE,hEv]),h1,hK⟩
    ·exact hm.elim
   ·exact hm.elim
  ·exact hm.elim
theorem b5C (h:HR e hp w) {k ver:Nat} {bx:Bool} {cs:List C} (hx:hp.get k=(ver,.var bx cs)) {j:Nat} {c:C} (hc : ∀b off arr T fz v,e.E k = .pointer (some ⟨b,off,none⟩)→w.heap[b]? = some (.cells arr T fz)→arr[off+j]? = some v→CR e hp w v c) (hkb:fixB bx cs (cs.set j c)=true) :
  Stp e hp w e (hp.set k (ver,.var bx (cs.set j c))) w:=by
 have hsr:SR e hp w e (hp.set k (ver,.var bx (cs.set j c))) w:=⟨fun b hb=>⟨hb,rfl⟩,fun k'=>by
  by_cases hkk:k'=k
  ·subst hkk
   refine .upd (by rw[Tr.e8,hx]) rfl ?_
   rw[Tr.e8,hx]
   exact .var _ _ _
  ·exact .same (Tr.j7 _ _ hkk) rfl fun b q hb=>⟨hb,rfl⟩⟩
 refine⟨⟨fun k' => ?_,h.sOk,h.oOk⟩,hsr,⟨rfl,rfl,rfl,fun _ h => .inl h,Nat.le_refl _,fun b hb ho=>⟨rfl,ho⟩,fun b k' off n cs0 arr T h1 h2 h3 h4 h5 => ?_⟩⟩
 ·by_cases hkk:k'=k
  ·subst hkk
   rw[Tr.e8]
   have hch:=h.chs k'
   rw[hx]at hch
   obtain⟨b,off,arr,T,g1,g2,g3,g4,g5⟩:=hch
   refine⟨b,off,arr,T,g1,g2,g3,by simpa using g4,fun j' c' hc' => ?_⟩
   by_cases hjj:j'=j
   ·subst hjj
    rw[List.getElem?_set_self']at hc'
    obtain⟨c0,hc0⟩ : ∃c0,cs[j']? = some c0:=by
     cases hcs:cs[j']? with
     |none=>rw[hcs]at hc';simp at hc'
     |some c0=>exact⟨c0,rfl⟩
    rw[hc0]at hc'
    simp at hc'
    subst hc'
    obtain⟨v,h6,h7,h8⟩:=g5 j' c0 hc0
    exact⟨v,h6,CR.mono hsr.S hsr.k _ _ (hc b off arr T (0,0) v g1 g3 h6),h8⟩
   ·rw[List.getElem?_set_ne (Ne.symm hjj)]at hc'
    obtain⟨v,h6,h7,h8⟩:=g5 j' c' hc'
    exact⟨v,h6,CR.mono hsr.S hsr.k _ _ h7,h8⟩
  ·rw[Tr.j7 _ _ hkk]
   exact ChR.mono hsr.S hsr.k rfl (fun b q hb=>⟨hb,rfl⟩) (h.chs k')
 ·by_cases hkk:k'=k
  ·subst hkk
   rw[hx]at h3
   cases h3
   exact⟨h1,rfl,⟨_,by rw[Tr.e8],hkb⟩,arr,h5,rfl,fun _ _=>rfl⟩
  ·exact⟨h1,rfl,⟨cs0,by rw[Tr.j7 _ _ hkk];exact h3,D7 cs0⟩,arr,h5,rfl,fun _ _=>rfl⟩
theorem O4 : ∀(ps:List Prep) (e:Env) (σ : St) (tmps:Array Value) (K:St→Prop),Rel B e w tmps σ → b2w ps σ K → ∃e' σ',Rel B e' w tmps σ'∧K σ'
 |[],e,σ,tmps,K,h,hm=>⟨e,σ,h,hm⟩
 |p::ps,e,σ,tmps,K,h,hm=>by
  simp only[b2w]at hm
  cases hs:p.slot with
  |tmp d j =>
   rw[hs]at hm
   have hv:=h.tm d
   simp only[c6d]at hm
   cases htd : σ.tm.get d with
   |one c =>
    rw[htd]at hm hv
    simp only[VR]at hv
    simp only at hm
    by_cases hj:j=0
    ·rw[if_pos hj]at hm
     obtain⟨e',hp',c',hst,hc',h1,hm⟩:=a3t h.hr hv.1 hv.2 hm
     simp only[a5y,if_true,a8C,htd]at hm
     have hr:=hst.rel (tm := σ.tm) (up := σ.up) h
     refine O4 ps e' ⟨σ.tm.set d (.one c'),hp',σ.up⟩ tmps K ⟨hr.hr,hr.fr,hr.up,fun t => ?_⟩ hm
     have ht:=hr.tm t
     simp only[Tr.W4]at ht ⊢
     split
     ·rename_i hte
      subst hte
      simp only[VR]
      exact⟨hc',y8.D5 h1⟩
     ·exact ht
    ·rw[if_neg hj]at hm
     unfold a7W at hm
     split at hm
     ·exact hm.elim
     ·split at hm<;>exact hm.elim
   |agg cs =>
    rw[htd]at hm hv
    simp only[VR]at hv
    obtain⟨arr,hva,hcs,hone⟩:=hv
    simp only at hm
    cases hcj:cs[j]? with
    |none =>
     rw[hcj]at hm
     simp only[Option.getD_none]at hm
     unfold a7W at hm
     split at hm
     ·exact hm.elim
     ·split at hm<;>exact hm.elim
    |some c =>
     rw[hcj]at hm
     simp only[Option.getD_some]at hm
     obtain⟨u,hu,huc⟩:=hcs.get j hcj
     have hu1:one u:=hone u (List.mem_of_getElem? hu)
     obtain⟨e',hp',c',hst,hc',h1,hm⟩:=a3t h.hr huc (y8.D5 hu1) hm
     simp only[a5y,if_true,a8C,htd]at hm
     have hr:=hst.rel (tm := σ.tm) (up := σ.up) h
     refine O4 ps e' ⟨σ.tm.set d (.agg (cs.set j c')),hp',σ.up⟩ tmps K ⟨hr.hr,hr.fr,hr.up,fun t => ?_⟩ hm
     have ht:=hr.tm t
     simp only[Tr.W4]at ht ⊢
     split
     ·rename_i hte
      subst hte
      simp only[VR]
      refine⟨arr,hva,CRs.a2F (by rw[hcs.length];simp) fun j' v' c2 hv' hc2 => ?_,hone⟩
      by_cases hjj:j'=j
      ·subst hjj
       rw[List.getElem?_set_self',hcj]at hc2
       simp at hc2
       subst hc2
       rw[hu]at hv'
       cases hv'
       exact hc'
      ·rw[List.getElem?_set_ne (Ne.symm hjj)]at hc2
       obtain⟨u2,hu2,hc3⟩:=(hst.CRs hcs).get j' hc2
       rw[hv']at hu2
       cases hu2
       exact hc3
     ·exact ht
   |tup vs =>
    rw[htd]at hm
    simp only at hm
    unfold a7W at hm
    split at hm
    ·exact hm.elim
    ·split at hm<;>exact hm.elim
  |cell k j =>
   rw[hs]at hm
   simp only[c6d]at hm
   have hch:=h.hr.chs k
   split at hm
   ·rename_i bx cs hk
    rw[hk]at hch
    obtain⟨b,off,arr,T,g1,g2,g3,g4,g5⟩:=hch
    cases hcj:cs[j]? with
    |none =>
     rw[hcj]at hm
     simp only[Option.getD_none]at hm
     unfold a7W at hm
     split at hm
     ·exact hm.elim
     ·split at hm<;>exact hm.elim
    |some c =>
     rw[hcj]at hm
     simp only[Option.getD_some]at hm
     obtain⟨u,hu,huc,hu1⟩:=g5 j c hcj
     obtain⟨e',hp',c',hst,hc',h1,hm⟩:=a3t h.hr huc (y8.D5 hu1) hm
     have hr:=hst.rel (tm := σ.tm) (up := σ.up) h
     split at hm
     ·rename_i hl
      simp only[a5y,Bool.and_eq_true,beq_iff_eq]at hl
      obtain⟨hl,hfx⟩:=hl
      have hptr:CR e σ.hp w (.pointer (some ⟨b,off,none⟩)) (.ptr k (σ.hp.get k).1 0):=by
       simp only[CR]
       exact⟨Nat.le_refl _,fun _=>⟨b,off,g1,rfl⟩⟩
      have hptr':=hst.CR hptr
      simp only[CR]at hptr'
      obtain⟨b',off',g1',hbo⟩:=hptr'.2 hl
      cases hbo
      simp only[a8C]at hm
      split at hm
      ·rename_i ver bx' cs' hx'
       have hrc:=b5C hr.hr hx' (j:=j) (c:=c') (fun b2 off2 arr2 T2 fz2 v2 hE2 hh2 hv2=>by
        rw[g1']at hE2
        cases hE2
        rw[g3]at hh2
        cases hh2
        rw[Nat.add_zero]at hu
        rw[hu]at hv2
        cases hv2
        exact hc') (by rw[hx']at hfx;exact hfx)
       exact O4 ps e' ⟨σ.tm,_,σ.up⟩ tmps K (hr.step hrc) hm
      ·exact O4 ps e' _ tmps K hr hm
     ·exact hm.elim
   ·unfold a7W at hm
    split at hm
    ·exact hm.elim
    ·split at hm<;>exact hm.elim
end
end Go.Sx
