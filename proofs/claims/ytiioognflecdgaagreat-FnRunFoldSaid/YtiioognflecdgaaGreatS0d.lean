/-
  What symbolic contents mean in memory: readings, owned trees, chunks; and that they last.
-/
import Derived.Test.YtiioognflecdgaaGreatS0c
import Derived.Laws.AppendOwn
set_option linter.unusedVariables false
set_option linter.unusedSimpArgs false
namespace Go.Sx
abbrev Path:=List (Nat×Nat)
structure Env where
 S:Nat→Prop
 om:Nat→Option (Nat×Path)
 E:Nat→Value
theorem b3h (t:RT) (h:t.O8=false):0<t.bytes:=by cases t<;>first|decide|cases h
def I2 (t:RT) (n:Nat):Prop:=n * t.bytes≤140737488355328∧n≤9223372036854775807
theorem I2.le {t:RT} {n:Nat} (h:I2 t n):n≤9223372036854775807:=h.2
theorem I2.leN {t:RT} {n:Nat} (h:n * t.bytes≤140737488355328) (ht:t.O8=false):n≤140737488355328:=by
 have:=Nat.le_mul_of_pos_right n (b3h t ht)
 omega
theorem I2.of {t:RT} {n:Nat} (h:n * t.bytes≤140737488355328) (ht:t.O8=false):I2 t n:=⟨h,by have:=I2.leN h ht;omega⟩
def celA (t:RT) (l:List t.ty) (i j:Nat):Option A:=(enc t fun _=>nth t l i)[j]?
theorem b3g (t:RT) (l:List t.ty) (i j:Nat) (h:j<t.size) : ∃a,celA t l i j=some a:=by
 unfold celA
 have:=D8 t (fun _=>nth t l i)
 exact⟨_,List.getElem?_eq_getElem (by omega)⟩
theorem J6 (t:RT) (l:Th (List t.ty)) (i:Th Int) (j:Nat):a0p t l i j=celA t (l ()) (i ()).toNat j:=rfl
inductive Rep (S:Nat→Prop) (w:World):Value→A→Prop
 |int (k:IntKind) (n:Th Int):k.min≤n ()→n ()≤k.max→Rep S w (.int k (n ())) (.int k n)
 |bool (b:SB):Rep S w (.bool b.val) (.bool b)
 |nil (t:RT) (l:Th (List t.ty)):l () = []→Rep S w (.slice none 0 0) (.list t l)
 |emp (t:RT) (l:Th (List t.ty)) (a:Addr) (cap:Nat):l () = []→Rep S w (.slice (some a) 0 cap) (.list t l)
 |row (t:RT) (l:Th (List t.ty)) (b off cap:Nat) (cs:Array Value) (T:Nat) (fz:Nat×Nat) (vs:Nat→Nat→Value) (as:Nat→Nat→A) :
   S b→w.heap[b]? = some (.cells cs T fz)→(l ()).length≤cap→I2 t (l ()).length →
   (∀i j,i<(l ()).length→j<t.size→celA t (l ()) i j=some (as i j)∧cs[off+i * t.size+j]? = some (vs i j)) →
   (∀i j,i<(l ()).length→j<t.size→Rep S w (vs i j) (as i j)) →
   Rep S w (.slice (some ⟨b,off,none⟩) (l ()).length cap) (.list t l)
theorem Rep.mono {S S':Nat→Prop} {w w':World} {v:Value} {a:A} (h:Rep S w v a) (hs : ∀b,S b→S' b∧w'.heap[b]? = w.heap[b]?):Rep S' w' v a:=by
 induction h with
 |int k n h1 h2=>exact .int k n h1 h2
 |bool b=>exact .bool b
 |nil t l h=>exact .nil t l h
 |emp t l a cap h2=>exact .emp t l a cap h2
 |row t l b off cap cs T fz vs as hb hh hc hl hg _ ih=>exact .row t l b off cap cs T fz vs as (hs b hb).1 (by rw[(hs b hb).2];exact hh) hc hl hg ih
theorem Rep.list {S:Nat→Prop} {w:World} {v:Value} {t:RT} {l:Th (List t.ty)} (h:Rep S w v (.list t l)) :
  (v = .slice none 0 0∧l () = [])∨(∃(b off cap:Nat) (cs:Array Value) (T:Nat) (fz:Nat×Nat) (vs:Nat→Nat→Value) (as:Nat→Nat→A),v = .slice (some ⟨b,off,none⟩) (l ()).length cap∧S b∧w.heap[b]? = some (.cells cs T fz) ∧
   (l ()).length≤cap∧I2 t (l ()).length∧(∀i j,i<(l ()).length→j<t.size→celA t (l ()) i j=some (as i j)∧cs[off+i * t.size+j]? = some (vs i j)) ∧
   ∀i j,i<(l ()).length→j<t.size→Rep S w (vs i j) (as i j))∨(l () = [] ∧ ∃a cap,v = .slice (some a) 0 cap):=by
 cases h with
 |nil _ _ h=>exact .inl ⟨rfl,h⟩
 |row _ _ b off cap cs T fz vs as h1 h2 h3 h4 h5 h6=>exact .inr (.inl ⟨b,off,cap,cs,T,fz,vs,as,rfl,h1,h2,h3,h4,h5,h6⟩)
 |emp _ _ a cap h2=>exact .inr (.inr ⟨h2,a,cap,rfl⟩)
theorem Rep.same {S:Nat→Prop} {w:World} {v:Value} {a a':A} (h:Rep S w v a) (hs:A.same a a'):Rep S w v a':=by
 cases hs with
 |int k m n e=>cases h with
  |int _ _ h1 h2=>rw[e]at h1 h2 ⊢;exact .int k n h1 h2
 |bool b c e=>cases h;rw[e];exact .bool c
 |list t l m e =>
  obtain rfl:l=m:=funext fun _=>e
  exact h
def one (v:Value):Prop:=v.oneCell'=true
theorem Rep.one {S:Nat→Prop} {w:World} {v:Value} {a:A} (h:Rep S w v a):Sx.one v:=by
 cases h<;>rfl
inductive OwnA (om:Nat→Option (Nat×Path)) (k:Nat) (w:World):Path→Value→A→Prop
 |int (p:Path) (kd:IntKind) (n:Th Int):kd.min≤n ()→n ()≤kd.max→OwnA om k w p (.int kd (n ())) (.int kd n)
 |bool (p:Path) (b:SB):OwnA om k w p (.bool b.val) (.bool b)
 |nil (p:Path) (t:RT) (l:Th (List t.ty)):l () = []→OwnA om k w p (.slice none 0 0) (.list t l)
 |row (p:Path) (t:RT) (l:Th (List t.ty)) (b cap:Nat) (cs:Array Value) (T:Nat) (vs:Nat→Nat→Value) (as:Nat→Nat→A) :
   om b=some (k,p)→w.heap[b]? = some (.cells cs T (0,0))→(l ()).length≤cap→cap≤maxLen→cs.size=cap * t.size→I2 t (l ()).length →
   (∀i j,i<(l ()).length→j<t.size→celA t (l ()) i j=some (as i j)∧cs[i * t.size+j]? = some (vs i j)) →
   (∀i j,i<(l ()).length→j<t.size→OwnA om k w (p ++ [(i,j)]) (vs i j) (as i j)) →
   OwnA om k w p (.slice (some ⟨b,0,none⟩) (l ()).length cap) (.list t l)
theorem OwnA.mono {om om':Nat→Option (Nat×Path)} {k k':Nat} {w w':World} {p:Path} {v:Value} {a:A} (h:OwnA om k w p v a) :
  ∀p':Path,(∀b r,om b=some (k,p++r)→om' b=some (k',p'++r)∧w'.heap[b]? = w.heap[b]?)→OwnA om' k' w' p' v a:=by
 induction h with
 |int p kd n h1 h2=>exact fun p' _ => .int p' kd n h1 h2
 |bool p b=>exact fun p' _ => .bool p' b
 |nil p t l h=>exact fun p' _ => .nil p' t l h
 |row p t l b cap cs T vs as hb hh hc hm hs hl hg _ ih =>
  intro p' hp
  have h0:=hp b [] (by simpa using hb)
  refine .row p' t l b cap cs T vs as (by simpa using h0.1) (by rw[h0.2];exact hh) hc hm hs hl hg fun i j hi hj => ?_
  refine ih i j hi hj (p' ++ [(i,j)]) fun b' r hr => ?_
  have:=hp b' ((i,j)::r) (by simpa using hr)
  simpa using this
theorem OwnA.rep {om:Nat→Option (Nat×Path)} {k:Nat} {w w':World} {p:Path} {v:Value} {a:A} {S:Nat→Prop} (h:OwnA om k w p v a) :
  (∀b r,om b=some (k,p++r)→S b∧w'.heap[b]? = w.heap[b]?)→Rep S w' v a:=by
 induction h with
 |int p kd n h1 h2=>exact fun _ => .int kd n h1 h2
 |bool p b=>exact fun _ => .bool b
 |nil p t l h=>exact fun _ => .nil t l h
 |row p t l b cap cs T vs as hb hh hc hm hs hl hg _ ih =>
  intro hp
  have h0:=hp b [] (by simpa using hb)
  refine .row t l b 0 cap cs T (0,0) vs as h0.1 (by rw[h0.2];exact hh) hc hl (fun i j hi hj=>by simpa using hg i j hi hj) fun i j hi hj => ?_
  refine ih i j hi hj fun b' r hr => ?_
  exact hp b' ((i,j)::r) (by simpa using hr)
theorem OwnA.same {om:Nat→Option (Nat×Path)} {k:Nat} {w:World} {p:Path} {v:Value} {a a':A} (h:OwnA om k w p v a) (hs:A.same a a'):OwnA om k w p v a':=by
 cases hs with
 |int kd m n e=>cases h with
  |int _ _ _ h1 h2=>rw[e]at h1 h2 ⊢;exact .int p kd n h1 h2
 |bool b c e=>cases h;rw[e];exact .bool p c
 |list t l m e =>
  obtain rfl:l=m:=funext fun _=>e
  exact h
theorem OwnA.one {om:Nat→Option (Nat×Path)} {k:Nat} {w:World} {p:Path} {v:Value} {a:A} (h:OwnA om k w p v a):Sx.one v:=by
 cases h<;>rfl
def C2 (om:Nat→Option (Nat×Path)) (k:Nat) (w:World):(t:RT)→Th (List t.ty)→Value→List (Th Int×Nat)→Value→Prop
 |_,_,v,[],v'=>v'=v
 |t,l,v,(i,j)::r,v' => ∃b cap q,v = .slice (some ⟨b,0,none⟩) (l ()).length cap∧om b=some (k,q)∧0≤i ()∧(i ()).toNat<(l ()).length ∧
   ∃u t2 l2,w.cell? ⟨b,(i ()).toNat * t.size+j,none⟩=some u∧a0p t l i j=some (.list t2 l2)∧C2 om k w t2 l2 u r v'
theorem C2.mono {om om':Nat→Option (Nat×Path)} {k:Nat} {w w':World} (hp : ∀b q,om b=some (k,q)→om' b=some (k,q)∧w'.heap[b]? = w.heap[b]?) :
  ∀(r:List (Th Int×Nat)) (t:RT) (l:Th (List t.ty)) (v v':Value),C2 om k w t l v r v'→C2 om' k w' t l v r v'
 |[],_,_,_,_,h=>h
 |(i,j)::r,t,l,v,v',⟨b,cap,q,h1,h2,h3,h4,u,t2,l2,h5,h6,h7⟩ =>
  ⟨b,cap,q,h1,(hp b q h2).1,h3,h4,u,t2,l2,by rw[World.cell?_of_block (hp b q h2).2];exact h5,h6,C2.mono hp r t2 l2 u v' h7⟩
def Ch.size? : Ch→Option Nat
 | .row _ _ t _=>some t.size
 | .hole _ t _ _ _ _=>some t.size
 | .ro t _=>some t.size
 |_=>none
def b8o (g:Nat):Ch→Prop
 | .row _ g' _ _=>g≤g'
 | .hole g' _ _ _ _ _=>g≤g'
 |_=>True
mutual
def CR (e:Env) (hp:Hp) (w:World) (v:Value):C→Prop
 | .att a=>Rep e.S w v a
 | .nil=>v = .slice none 0 0
 | .own k ver=>ver≤(hp.get k).1∧((hp.get k).1=ver→v=e.E k)
 | .ptr k ver j=>ver≤(hp.get k).1∧((hp.get k).1=ver → ∃b off,e.E k = .pointer (some ⟨b,off,none⟩)∧v = .pointer (some ⟨b,off+j,none⟩))
 | .pp k ver g pre i j=>ver≤(hp.get k).1∧((hp.get k).1=ver→match pre with
   |[] => ∃b len cap,e.E k = .slice (some ⟨b,0,none⟩) len cap∧0≤i ()∧(i ()).toNat<len ∧ ∀sz,(hp.get k).2.size? = some sz→v = .pointer (some ⟨b,(i ()).toNat * sz+j,none⟩)
   |_::_=>b8o g (hp.get k).2 ∧ ∀t l,(hp.get k).2 = .row true g t l → ∃t2 l2 b cap,subA t l pre=some (.list t2 l2)∧C2 e.om k w t l (e.E k) pre (.slice (some ⟨b,0,none⟩) (l2 ()).length cap) ∧
     0≤i ()∧(i ()).toNat<(l2 ()).length∧v = .pointer (some ⟨b,(i ()).toNat * t2.size+j,none⟩))
 | .pref k ver g pre i j=>ver≤(hp.get k).1∧((hp.get k).1=ver→b8o g (hp.get k).2 ∧ ∀t l,(hp.get k).2 = .row true g t l→C2 e.om k w t l (e.E k) (pre ++ [(i,j)]) v)
 | .rptr t l i j => ∃b off cap,Rep e.S w (.slice (some ⟨b,off,none⟩) (l ()).length cap) (.list t l)∧0≤i ()∧(i ()).toNat<(l ()).length∧v = .pointer (some ⟨b,off+(i ()).toNat * t.size+j,none⟩)
 | .fn f caps => ∃vs,v = .func (.func f) #[] vs∧CRs e hp w vs.toList caps
 | .ownd _ _=>False
 | .box _=>False
 | .unk=>True
def CRs (e:Env) (hp:Hp) (w:World):List Value→List C→Prop
 |[],[]=>True
 |v::vs,c::cs=>CR e hp w v c∧CRs e hp w vs cs
 |_,_=>False
end
inductive ChUpd:Ch→Ch→Prop
 |var (bx:Bool) (cs cs':List C):ChUpd (.var bx cs) (.var bx cs')
 |row (dp dp':Bool) (g g':Nat) (t:RT) (l l':Th (List t.ty)):g<g'→ChUpd (.row dp g t l) (.row dp' g' t l')
 |hole (g:Nat) (t:RT) (l:Th (List t.ty)) (pre:List (Th Int×Nat)) (i:Th Int) (j:Nat):ChUpd (.row true g t l) (.hole g t l pre i j)
 |fill (g g':Nat) (t:RT) (l l':Th (List t.ty)) (pre:List (Th Int×Nat)) (i:Th Int) (j:Nat):g<g'→ChUpd (.hole g t l pre i j) (.row true g' t l')
 |ro (dp:Bool) (g:Nat) (t:RT) (l:Th (List t.ty)):ChUpd (.row dp g t l) (.ro t l)
 |dead (c:Ch):ChUpd c .dead
inductive KR (e:Env) (hp:Hp) (w:World) (e':Env) (hp':Hp) (w':World) (k:Nat):Prop
 |same:hp'.get k=hp.get k→e'.E k=e.E k→(∀b q,e.om b=some (k,q)→e'.om b=some (k,q)∧w'.heap[b]? = w.heap[b]?)→KR e hp w e' hp' w' k
 |bump:(hp.get k).1<(hp'.get k).1→KR e hp w e' hp' w' k
 |upd:(hp'.get k).1=(hp.get k).1→e'.E k=e.E k→ChUpd (hp.get k).2 (hp'.get k).2→KR e hp w e' hp' w' k
 |keep (v g:Nat) (t:RT) (l l':Th (List t.ty)):hp.get k=(v,.row true g t l)→hp'.get k=(v,.row true g t l')→e'.E k=e.E k →
   (∀(pre:List (Th Int×Nat)) (t2:RT) (l2:Th (List t2.ty)),subA t l pre=some (.list t2 l2) → ∃l2':Th (List t2.ty),subA t l' pre=some (.list t2 l2')∧(l2' ()).length=(l2 ()).length) →
   (∀(pre:List (Th Int×Nat)) (u:Value),C2 e.om k w t l (e.E k) pre u→C2 e'.om k w' t l' (e.E k) pre u)→KR e hp w e' hp' w' k
section
variable {e e':Env} {hp hp':Hp} {w w':World}
theorem KR.ver {k:Nat} (h:KR e hp w e' hp' w' k):(hp.get k).1≤(hp'.get k).1:=by
 cases h with
 |same h _ _=>rw[h];exact Nat.le_refl _
 |bump h=>omega
 |upd h _ _=>omega
 |keep v g t l l' h h'=>rw[h,h'];exact Nat.le_refl _
mutual
theorem CR.mono (hS : ∀b,e.S b→e'.S b∧w'.heap[b]? = w.heap[b]?) (hk : ∀k,KR e hp w e' hp' w' k) : ∀(c:C) (v:Value),CR e hp w v c→CR e' hp' w' v c
 | .att a,v,h=>by simp only[CR]at *;exact h.mono hS
 | .nil,v,h=>by simpa only[CR]using h
 | .own k ver,v,h=>by
  simp only[CR]at *
  refine⟨Nat.le_trans h.1 (hk k).ver,fun hv => ?_⟩
  cases hk k with
  |same h1 h2 _=>rw[h2];exact h.2 (by rw[←h1];exact hv)
  |bump h1=>omega
  |upd h1 h2 _=>rw[h2];exact h.2 (by omega)
  |keep v0 g0 t0 l0 l0' k1 k2 k3=>rw[k3];rw[k2]at hv;exact h.2 (by rw[k1];exact hv)
 | .ptr k ver j,v,h=>by
  simp only[CR]at *
  refine⟨Nat.le_trans h.1 (hk k).ver,fun hv => ?_⟩
  cases hk k with
  |same h1 h2 _=>rw[h2];exact h.2 (by rw[←h1];exact hv)
  |bump h1=>omega
  |upd h1 h2 _=>rw[h2];exact h.2 (by omega)
  |keep v0 g0 t0 l0 l0' k1 k2 k3=>rw[k3];rw[k2]at hv;exact h.2 (by rw[k1];exact hv)
 | .pp k ver g pre i j,v,h=>by
  simp only[CR]at *
  refine⟨Nat.le_trans h.1 (hk k).ver,fun hv => ?_⟩
  cases hk k with
  |same h1 h2 h3 =>
   have h4:=h.2 (by rw[←h1];exact hv)
   cases pre with
   |nil =>
    obtain⟨b,len,cap,a1,a2,a3,a4⟩:=h4
    exact⟨b,len,cap,by rw[h2];exact a1,a2,a3,by rw[h1];exact a4⟩
   |cons x r =>
    rw[h1,h2]
    refine⟨h4.1,fun t l hr => ?_⟩
    obtain⟨t2,l2,b,cap,a1,a2,a3⟩:=h4.2 t l hr
    exact⟨t2,l2,b,cap,a1,C2.mono h3 _ _ _ _ _ a2,a3⟩
  |bump h1=>omega
  |upd h1 h2 h3 =>
   have h4:=h.2 (by omega)
   cases pre with
   |nil =>
    obtain⟨b,len,cap,a1,a2,a3,a4⟩:=h4
    refine⟨b,len,cap,by rw[h2];exact a1,a2,a3,fun sz hsz=>a4 sz ?_⟩
    revert hsz
    generalize (hp.get k).2=x at h3
    generalize (hp'.get k).2=y at h3
    cases h3<;>simp[Ch.size?]
   |cons x r =>
    obtain⟨h4,_⟩:=h4
    revert h4
    generalize (hp.get k).2=x at h3
    generalize (hp'.get k).2=y at h3
    intro h4
    cases h3 with
    |var=>exact⟨trivial,fun t l hr=>by cases hr⟩
    |row dp dp' g0 g' t0 l0 l' hlt=>exact⟨Nat.le_trans h4 (Nat.le_of_lt hlt),fun t l hr=>by cases hr;have:g≤g0:=h4;omega⟩
    |hole=>exact⟨h4,fun t l hr=>by cases hr⟩
    |fill g0 g' t0 l0 l' pre i j hlt=>exact⟨Nat.le_trans h4 (Nat.le_of_lt hlt),fun t l hr=>by cases hr;have:g≤g0:=h4;omega⟩
    |ro=>exact⟨trivial,fun t l hr=>by cases hr⟩
    |dead=>exact⟨trivial,fun t l hr=>by cases hr⟩
  |keep v0 g0 t0 l0 l0' k1 k2 k3 k4 k5 =>
   rw[k2]at hv
   have h4:=h.2 (by rw[k1];exact hv)
   cases pre with
   |nil =>
    obtain⟨b,len,cap,a1,a2,a3,a4⟩:=h4
    refine⟨b,len,cap,by rw[k3];exact a1,a2,a3,fun sz hsz=>a4 sz ?_⟩
    rw[k2]at hsz
    rw[k1]
    exact hsz
   |cons x r =>
    rw[k1]at h4
    rw[k2,k3]
    refine⟨h4.1,fun t l hr => ?_⟩
    cases hr
    obtain⟨t2,l2,b,cap,a1,a2,a3,a4,a5⟩:=h4.2 _ _ rfl
    obtain⟨l2',b1,b2⟩:=k4 _ _ _ a1
    exact⟨t2,l2',b,cap,b1,by rw[b2];exact k5 _ _ a2,a3,by rw[b2];exact a4,a5⟩
 | .pref k ver g pre i j,v,h=>by
  simp only[CR]at *
  refine⟨Nat.le_trans h.1 (hk k).ver,fun hv => ?_⟩
  cases hk k with
  |same h1 h2 h3 =>
   have h4:=h.2 (by rw[←h1];exact hv)
   rw[h1,h2]
   exact⟨h4.1,fun t l hr=>C2.mono h3 _ _ _ _ _ (h4.2 t l hr)⟩
  |bump h1=>omega
  |upd h1 h2 h3 =>
   obtain⟨h4,_⟩:=h.2 (by omega)
   revert h4
   generalize (hp.get k).2=x at h3
   generalize (hp'.get k).2=y at h3
   intro h4
   cases h3 with
   |var=>exact⟨trivial,fun t l hr=>by cases hr⟩
   |row dp dp' g0 g' t0 l0 l' hlt=>exact⟨Nat.le_trans h4 (Nat.le_of_lt hlt),fun t l hr=>by cases hr;have:g≤g0:=h4;omega⟩
   |hole=>exact⟨h4,fun t l hr=>by cases hr⟩
   |fill g0 g' t0 l0 l' pre i j hlt=>exact⟨Nat.le_trans h4 (Nat.le_of_lt hlt),fun t l hr=>by cases hr;have:g≤g0:=h4;omega⟩
   |ro=>exact⟨trivial,fun t l hr=>by cases hr⟩
   |dead=>exact⟨trivial,fun t l hr=>by cases hr⟩
  |keep v0 g0 t0 l0 l0' k1 k2 k3 k4 k5 =>
   rw[k2]at hv
   have h4:=h.2 (by rw[k1];exact hv)
   rw[k1]at h4
   rw[k2,k3]
   refine⟨h4.1,fun t l hr => ?_⟩
   cases hr
   exact k5 _ _ (h4.2 _ _ rfl)
 | .rptr t l i j,v,h=>by
  simp only[CR]at *
  obtain⟨b,off,cap,h1,h2⟩:=h
  exact⟨b,off,cap,h1.mono hS,h2⟩
 | .fn f caps,v,h=>by
  simp only[CR]at *
  obtain⟨vs,h1,h2⟩:=h
  exact⟨vs,h1,CRs.mono hS hk caps vs.toList h2⟩
 | .ownd _ _,v,h=>by simp only[CR]at h
 | .box _,v,h=>by simp only[CR]at h
 | .unk,v,h=>by simp only[CR]
theorem CRs.mono (hS : ∀b,e.S b→e'.S b∧w'.heap[b]? = w.heap[b]?) (hk : ∀k,KR e hp w e' hp' w' k) : ∀(cs:List C) (vs:List Value),CRs e hp w vs cs→CRs e' hp' w' vs cs
 |[],[],h=>by simp only[CRs]
 |c::cs,v::vs,h=>by
  simp only[CRs]at *
  exact⟨CR.mono hS hk c v h.1,CRs.mono hS hk cs vs h.2⟩
 |[],_::_,h=>by simp only[CRs]at h
 |_::_,[],h=>by simp only[CRs]at h
end
theorem CRs.length {vs:List Value} {cs:List C} (h:CRs e hp w vs cs):vs.length=cs.length:=by
 induction vs generalizing cs with
 |nil=>cases cs with
  |nil=>rfl
  |cons _ _=>simp only[CRs]at h
 |cons v vs ih=>cases cs with
  |nil=>simp only[CRs]at h
  |cons _ _=>simp only[CRs]at h;simp[ih h.2]
theorem CRs.get {vs:List Value} {cs:List C} (h:CRs e hp w vs cs) (j:Nat) {c:C} (hc:cs[j]? = some c) : ∃v,vs[j]? = some v∧CR e hp w v c:=by
 induction vs generalizing cs j with
 |nil=>cases cs with
  |nil=>simp at hc
  |cons _ _=>simp only[CRs]at h
 |cons v vs ih=>cases cs with
  |nil=>simp only[CRs]at h
  |cons _ _ =>
   simp only[CRs]at h
   cases j with
   |zero=>simp at hc;subst hc;exact⟨v,rfl,h.1⟩
   |succ j=>simpa using ih h.2 j (by simpa using hc)
theorem CRs.a2F {vs:List Value} {cs:List C} (hl:vs.length=cs.length) (h : ∀(j:Nat) v c,vs[j]? = some v→cs[j]? = some c→CR e hp w v c):CRs e hp w vs cs:=by
 induction vs generalizing cs with
 |nil=>cases cs with
  |nil=>simp only[CRs]
  |cons _ _=>simp at hl
 |cons v vs ih=>cases cs with
  |nil=>simp at hl
  |cons c cs =>
   simp only[CRs]
   exact⟨h 0 v c rfl rfl,ih (by simpa using hl) fun j u d hu hd=>h (j+1) u d (by simpa using hu) (by simpa using hd)⟩
structure RowM (w:World) (t:RT) (l:List t.ty) (v:Value) (b cap:Nat) (cs:Array Value) (T:Nat) (vs:Nat→Nat→Value) (as:Nat→Nat→A):Prop where
 hv:v = .slice (some ⟨b,0,none⟩) l.length cap
 hh:w.heap[b]? = some (.cells cs T (0,0))
 hc:l.length≤cap
 hm:cap≤maxLen
 hs:cs.size=cap * t.size
 hl:I2 t l.length
 hg : ∀i j,i<l.length→j<t.size→celA t l i j=some (as i j)∧cs[i * t.size+j]? = some (vs i j)
theorem RowM.att {w w':World} {t:RT} {l:List t.ty} {v:Value} {b cap:Nat} {cs:Array Value} {T:Nat} {vs:Nat→Nat→Value} {as:Nat→Nat→A} (h:RowM w t l v b cap cs T vs as)
  (hb:w'.heap[b]? = w.heap[b]?):RowM w' t l v b cap cs T vs as:=⟨h.hv,by rw[hb];exact h.hh,h.hc,h.hm,h.hs,h.hl,h.hg⟩
theorem OwnA.list {om:Nat→Option (Nat×Path)} {k:Nat} {w:World} {p:Path} {v:Value} {t:RT} {l:Th (List t.ty)} (h:OwnA om k w p v (.list t l)) :
  (v = .slice none 0 0∧l () = []) ∨ ∃(b cap:Nat) (cs:Array Value) (T:Nat) (vs:Nat→Nat→Value) (as:Nat→Nat→A),RowM w t (l ()) v b cap cs T vs as∧om b=some (k,p) ∧
   ∀i j,i<(l ()).length→j<t.size→OwnA om k w (p ++ [(i,j)]) (vs i j) (as i j):=by
 cases h with
 |nil _ _ _ h=>exact .inl ⟨rfl,h⟩
 |row _ _ _ b cap cs T vs as h1 h2 h3 h4 h5 h6 h7 h8=>exact .inr ⟨b,cap,cs,T,vs,as,⟨rfl,h2,h3,h4,h5,h6,h7⟩,h1,h8⟩
theorem RowM.own {om:Nat→Option (Nat×Path)} {k:Nat} {w:World} {p:Path} {v:Value} {t:RT} {l:Th (List t.ty)} {b cap:Nat} {cs:Array Value} {T:Nat} {vs:Nat→Nat→Value} {as:Nat→Nat→A}
  (h:RowM w t (l ()) v b cap cs T vs as) (hb:om b=some (k,p)) (hr : ∀i j,i<(l ()).length→j<t.size→OwnA om k w (p ++ [(i,j)]) (vs i j) (as i j)):OwnA om k w p v (.list t l):=by
 rw[h.hv]
 exact .row p t l b cap cs T vs as hb h.hh h.hc h.hm h.hs h.hl h.hg hr
def a4K (om:Nat→Option (Nat×Path)) (k:Nat) (w:World) (p:Path) (v:Value):(t:RT)→Th (List t.ty)→List (Nat×Nat)→Nat→Nat→Prop
 |t,l,[],i0,j0 => ∃(b cap:Nat) (cs:Array Value) (T:Nat) (vs:Nat→Nat→Value) (as:Nat→Nat→A),RowM w t (l ()) v b cap cs T vs as∧om b=some (k,p)∧i0<(l ()).length∧j0<t.size ∧
   (∀i j,i<(l ()).length→j<t.size→(i≠i0∨j≠j0)→OwnA om k w (p ++ [(i,j)]) (vs i j) (as i j))∧Sx.one (vs i0 j0)
 |t,l,(i1,j1)::r,i0,j0 => ∃(b cap:Nat) (cs:Array Value) (T:Nat) (vs:Nat→Nat→Value) (as:Nat→Nat→A) (t2:RT) (l2:Th (List t2.ty)),RowM w t (l ()) v b cap cs T vs as∧om b=some (k,p) ∧
   i1<(l ()).length∧j1<t.size∧celA t (l ()) i1 j1=some (.list t2 l2) ∧
   (∀i j,i<(l ()).length→j<t.size→(i≠i1∨j≠j1)→OwnA om k w (p ++ [(i,j)]) (vs i j) (as i j)) ∧
   a4K om k w (p ++ [(i1,j1)]) (vs i1 j1) t2 l2 r i0 j0
def E8 (r:List (Th Int×Nat)):List (Nat×Nat):=r.map fun x=>((x.1 ()).toNat,x.2)
def ChR (e:Env) (hp:Hp) (w:World) (k:Nat):Ch→Prop
 | .var _ cs => ∃(b off:Nat) (arr:Array Value) (T:Nat),e.E k = .pointer (some ⟨b,off,none⟩)∧e.om b=some (k,[])∧w.heap[b]? = some (.cells arr T (0,0))∧off+cs.length≤arr.size ∧
   ∀j c,cs[j]? = some c → ∃v,arr[off+j]? = some v∧CR e hp w v c∧Sx.one v
 | .row true _ t l=>OwnA e.om k w [] (e.E k) (.list t l)
 | .row false _ t l=>(e.E k = .slice none 0 0∧l () = []) ∨ ∃(b cap:Nat) (cs:Array Value) (T:Nat) (vs:Nat→Nat→Value) (as:Nat→Nat→A),RowM w t (l ()) (e.E k) b cap cs T vs as∧e.om b=some (k,[]) ∧
   (∀i j,i<(l ()).length→j<t.size→Rep e.S w (vs i j) (as i j))
 | .hole _ t l pre i j=>0≤i ()∧a4K e.om k w [] (e.E k) t l (E8 pre) (i ()).toNat j
 | .ro t l=>Rep e.S w (e.E k) (.list t l)
 | .dead=>True
theorem a4K.mono {om om':Nat→Option (Nat×Path)} {k:Nat} (hp : ∀b q,om b=some (k,q)→om' b=some (k,q)∧w'.heap[b]? = w.heap[b]?) :
  ∀(r:List (Nat×Nat)) (p:Path) (v:Value) (t:RT) (l:Th (List t.ty)) (i j:Nat),a4K om k w p v t l r i j→a4K om' k w' p v t l r i j
 |[],p,v,t,l,i0,j0,h=>by
  obtain⟨b,cap,cs,T,vs,as,h1,h2,h3,h4,h5,h6⟩:=h
  exact⟨b,cap,cs,T,vs,as,h1.att (hp b p h2).2,(hp b p h2).1,h3,h4,fun i j hi hj hne=>(h5 i j hi hj hne).mono _ fun b' r hr=>hp b' _ hr,h6⟩
 |(i1,j1)::r,p,v,t,l,i0,j0,h=>by
  obtain⟨b,cap,cs,T,vs,as,t2,l2,h1,h2,h3,h4,h5,h6,h7⟩:=h
  exact⟨b,cap,cs,T,vs,as,t2,l2,h1.att (hp b p h2).2,(hp b p h2).1,h3,h4,h5,fun i j hi hj hne=>(h6 i j hi hj hne).mono _ fun b' r hr=>hp b' _ hr,a4K.mono hp r _ _ t2 l2 i0 j0 h7⟩
theorem ChR.mono (hS : ∀b,e.S b→e'.S b∧w'.heap[b]? = w.heap[b]?) (hk : ∀k,KR e hp w e' hp' w' k) {k:Nat}
  (hE:e'.E k=e.E k) (hom : ∀b q,e.om b=some (k,q)→e'.om b=some (k,q)∧w'.heap[b]? = w.heap[b]?) {c:Ch} (h:ChR e hp w k c):ChR e' hp' w' k c:=by
 cases c with
 |var bx cs =>
  obtain⟨b,off,arr,T,h1,h2,h3,h4,h5⟩:=h
  refine⟨b,off,arr,T,by rw[hE];exact h1,(hom b _ h2).1,by rw[(hom b _ h2).2];exact h3,h4,fun j c hc => ?_⟩
  obtain⟨v,h6,h7,h8⟩:=h5 j c hc
  exact⟨v,h6,CR.mono hS hk c v h7,h8⟩
 |row dp g t l =>
  cases dp with
  |true =>
   simp only[ChR]at *
   rw[hE]
   exact h.mono [] fun b r hr=>hom b _ hr
  |false =>
   simp only[ChR]at *
   rw[hE]
   rcases h with h|⟨b,cap,cs,T,vs,as,h1,h2,h3⟩
   ·exact .inl h
   ·exact .inr ⟨b,cap,cs,T,vs,as,h1.att (hom b _ h2).2,(hom b _ h2).1,fun i j hi hj=>(h3 i j hi hj).mono hS⟩
 |hole g t l pre i j =>
  simp only[ChR]at *
  rw[hE]
  exact⟨h.1,a4K.mono hom _ _ _ _ _ _ _ h.2⟩
 |ro t l =>
  simp only[ChR]at *
  rw[hE]
  exact h.mono hS
 |dead=>trivial
structure HR (e:Env) (hp:Hp) (w:World):Prop where
 chs : ∀k,ChR e hp w k (hp.get k).2
 sOk : ∀b,e.S b→e.om b=none∧b<w.heap.size
 oOk : ∀b x,e.om b=some x→b<w.heap.size
def y8 (c:C) (v:Value):Prop :=
 match c with
 | .unk=>True
 |_=>one v
mutual
def VR (e:Env) (hp:Hp) (w:World) (v:Value):V→Prop
 | .one c=>CR e hp w v c∧y8 c v
 | .agg cs => ∃arr,v = .agg arr∧CRs e hp w arr.toList cs ∧ ∀u∈arr.toList,Sx.one u
 | .tup vs => ∃arr,v = .tuple arr∧VRs e hp w arr.toList vs
def VRs (e:Env) (hp:Hp) (w:World):List Value→List V→Prop
 |[],[]=>True
 |u::us,x::xs=>VR e hp w u x∧VRs e hp w us xs
 |_,_=>False
end
end
end Go.Sx
