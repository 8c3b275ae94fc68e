/-
  Contracts: what is lent.
-/
import Derived.Test.YtiioognflecdgaaGreatS4y
set_option linter.unusedVariables false
set_option linter.unusedSimpArgs false
namespace Go.Sx
section
variable {P:Program} {ctx:Ctx} {B:Base} {e e':Env} {a:Act} {w w':World} {σ τ : St} {L:Locks} {hp hp':Hp}
def b4J:Ch→Prop
 | .row _ _ _ _=>True
 |_=>False
def E5:List C→List Nat
 |[] => []
 | .own k _::cs=>k::E5 cs
 | .pref k _ _ _ _ _::cs=>k::E5 cs
 |_::cs=>E5 cs
def a0f (e:Env) (hp:Hp) (ks:List Nat) (b:Nat):Prop:=e.S b ∨ ∃k q,e.om b=some (k,q)∧k∈ks∧b4J (hp.get k).2
theorem a0s (cs ds:List C):E5 (cs++ds)=E5 cs++E5 ds:=by
 induction cs with
 |nil=>rfl
 |cons c cs ih=>cases c<;>simp[E5,ih]
def InA (S:Nat→Prop) (w:World):List Value→List A→Prop
 |[],[]=>True
 |v::vs,a::as=>(Rep S w v a∧one v)∧InA S w vs as
 |_,_=>False
def InV (S:Nat→Prop) (w:World) (v:Value) (p:PT) (x:Th p.ty):Prop :=
 match p.isAgg with
 |true => ∃arr,v = .agg arr∧InA S w arr.toList (p.encA x)
 |false=>InA S w [v] (p.encA x)
def InVs (S:Nat→Prop) (w:World):List Value→(ps:List PT)→Args ps→Prop
 |[],[],_=>True
 |v::vs,p::ps,x=>InV S w v p x.1∧InVs S w vs ps x.2
 |_,_,_=>False
theorem InA.same {S:Nat→Prop} {as bs:List A} (hs:Same as bs) : ∀ {vs:List Value},InA S w vs as→InA S w vs bs:=by
 induction hs with
 |nil=>exact fun h=>h
 |cons h1 _ ih =>
  intro vs h
  cases vs with
  |nil=>exact h
  |cons v vs=>exact⟨⟨h.1.1.same h1,h.1.2⟩,ih h.2⟩
theorem InA.CRs {S:Nat→Prop} (hS : ∀b,S b→e.S b) : ∀ {vs:List Value} {as:List A},InA S w vs as→CRs e hp w vs (as.map C.att)
 |[],[],_=>by simp only[List.map_nil,Sx.CRs]
 |v::vs,a::as,h=>by simp only[List.map_cons,Sx.CRs,CR];exact⟨h.1.1.mono fun b hb=>⟨hS b hb,rfl⟩,InA.CRs hS h.2⟩
 |[],_::_,h=>h.elim
 |_::_,[],h=>h.elim
theorem InA.one {S:Nat→Prop} : ∀ {vs:List Value} {as:List A},InA S w vs as → ∀u∈vs,Sx.one u
 |[],_,_,u,hu=>by simp at hu
 |v::vs,[],h,_,_=>h.elim
 |v::vs,a::as,h,u,hu=>by
  rcases List.mem_cons.1 hu with rfl|hu
  ·exact h.1.2
  ·exact InA.one h.2 u hu
theorem InV.VR {S:Nat→Prop} (hS : ∀b,S b→e.S b) {v:Value} {p:PT} {x:Th p.ty} (h:InV S w v p x):VR e hp w v (p.enc x):=by
 unfold InV at h
 unfold PT.enc
 split at h
 ·rename_i hp'
  rw[hp']
  obtain⟨arr,h1,h2⟩:=h
  simp only[Sx.VR]
  exact⟨arr,h1,h2.CRs hS,h2.one⟩
 ·rename_i hp'
  rw[hp']
  have hc:=h.CRs (e:=e) (hp:=hp) hS
  have ho:=h.one
  revert hc
  generalize (p.encA x).map C.att=l
  intro hc
  have hl:=hc.length
  match l,hl with
  |[c],_ =>
   simp only[Sx.CRs]at hc
   simp only[Sx.VR]
   exact⟨hc.1,y8.D5 (ho v (by simp))⟩
  |[],hl=>simp at hl
  |_::_::_,hl=>simp at hl
theorem InVs.VRs {S:Nat→Prop} (hS : ∀b,S b→e.S b) : ∀ {vs:List Value} {ps:List PT} {x:Args ps},InVs S w vs ps x→VRs e hp w vs (a0v ps x)
 |[],[],_,_=>by simp only[a0v,Sx.VRs]
 |v::vs,p::ps,x,h=>by simp only[a0v,Sx.VRs];exact⟨h.1.VR hS,InVs.VRs hS h.2⟩
 |[],_::_,_,h=>h.elim
 |_::_,[],_,h=>h.elim
theorem Rep.ok {S:Nat→Prop} {v:Value} {a:A} (h:Rep S w v a):OkA a:=by
 induction h with
 |int k n h1 h2=>exact .int k n h1 h2
 |bool b=>exact .bool b
 |nil t l h=>exact .list t l (by rw[h];simp) fun i j a hi=>by rw[h]at hi;simp at hi
 |emp t l _ _ h=>exact .list t l (by rw[h];simp) fun i j a hi=>by rw[h]at hi;simp at hi
 |row t l b off cap cs T fz vs as hb hh hc hl hg _ ih =>
  refine .list t l hl fun i j a hi ha => ?_
  have hj:j<t.size:=by
   have:=(List.getElem?_eq_some_iff.1 ha).1
   rw[D8]at this
   exact this
  have h1:=(hg i j hi hj).1
  unfold celA at h1
  rw[ha]at h1
  cases h1
  exact ih i j hi hj
theorem InA.ok {S:Nat→Prop} : ∀ {vs:List Value} {as:List A},InA S w vs as → ∀a∈as,OkA a
 |[],[],_,a,ha=>by simp at ha
 |v::vs,b::as,h,a,ha=>by
  rcases List.mem_cons.1 ha with rfl|ha
  ·exact h.1.1.ok
  ·exact InA.ok h.2 a ha
 |[],_::_,h,_,_=>h.elim
 |_::_,[],h,_,_=>h.elim
theorem InVs.ok {S:Nat→Prop} : ∀ {vs:List Value} {ps:List PT} {x:Args ps},InVs S w vs ps x→b5k ps x
 |[],[],_,_=>trivial
 |v::vs,p::ps,x,h=>by
  refine⟨?_,InVs.ok h.2⟩
  have h1:=h.1
  unfold InV at h1
  split at h1
  ·obtain⟨arr,_,h2⟩:=h1;exact h2.ok
  ·exact h1.ok
 |[],_::_,_,h=>h.elim
 |_::_,[],_,h=>h.elim
theorem Lst.rep {v:Value} {t:RT} {l:Th (List t.ty)} {c:C} (h:Lst e hp w v t l c) {ks:List Nat} (hk : ∀k∈E5 [c],k∈ks):Rep (a0f e hp ks) w v (.list t l):=by
 cases h with
 |att hr=>exact hr.mono fun b hb=>⟨.inl hb,rfl⟩
 |row k ver g dp hx hv hch =>
  have hkk:k∈ks:=hk k (by simp[E5])
  have hrow:b4J (hp.get k).2:=by rw[hx];trivial
  rw[hv]
  cases dp with
  |true =>
   have hown:OwnA e.om k w [] (e.E k) (.list t l):=hch
   exact hown.rep fun b r hb=>⟨.inr ⟨k,_,hb,hkk,hrow⟩,rfl⟩
  |false =>
   rcases hch with ⟨h1,h2⟩|⟨b,cap,cs,T,vs,as,h1,h2,h3⟩
   ·rw[h1];exact .nil t l h2
   ·rw[h1.hv]
    exact .row t l b 0 cap cs T (0,0) vs as (.inr ⟨k,_,h2,hkk,hrow⟩) h1.hh h1.hc h1.hl (fun i j hi hj=>by simpa using h1.hg i j hi hj) fun i j hi hj=>(h3 i j hi hj).mono fun b hb=>⟨.inl hb,rfl⟩
 |ro k ver hx hv hr=>exact hr.mono fun b hb=>⟨.inl hb,rfl⟩
 |pref k ver g pre i j t0 l0 hx hs hm hown =>
  have hkk:k∈ks:=hk k (by simp[E5])
  have hrow:b4J (hp.get k).2:=by rw[hx];trivial
  exact(a1k _ _ _ _ _ _ _ _ hown hs hm).rep fun b r hb=>⟨.inr ⟨k,_,hb,hkk,hrow⟩,rfl⟩
theorem b7p {o:Option RT} {c:C} {K:A→Hp→Prop} (hm:(b0w o c).wp L hp K) (hn : ∀a,c ≠ .att a) (hn2:c ≠ .nil):(a1q c).wp L hp fun x hp'=>K (.list x.1 x.2) hp':=by
 cases c with
 |own k v =>
  simp only[b0w,a1q,M.wp]at *
  split at hm
  ·exact hm.elim
  ·rename_i hc
   rw[if_neg hc]
   revert hm
   generalize hp.get k=x
   obtain⟨v',ch⟩:=x
   cases ch<;>intro hm<;>simp only at hm ⊢ <;> (try exact hm.elim)<;>split at hm<;>(try exact hm.elim)<;>rename_i hv<;>rw[if_pos hv]<;>exact hm
 |pref k v g pre i j =>
  simp only[b0w,a1q,M.wp]at *
  split at hm
  ·exact hm.elim
  ·rename_i hc
   rw[if_neg hc]
   revert hm
   generalize hp.get k=x
   obtain⟨v',ch⟩:=x
   cases ch with
   |row dp g' t0 l0 =>
    cases dp with
    |true =>
     intro hm
     simp only at hm ⊢
     split at hm
     ·rename_i hv
      rw[if_pos hv]
      split at hm
      ·rename_i hs
       rw[hs]
       exact hm
      ·exact hm.elim
     ·exact hm.elim
    |false=>intro hm;exact hm.elim
   |_=>intro hm;exact hm.elim
 |att a=>exact absurd rfl (hn a)
 |nil=>exact absurd rfl hn2
 |_=>exact hm.elim
theorem b7o (h:HR e hp w) {o:Option RT} {c:C} {v:Value} (hc:CR e hp w v c) {ks:List Nat} (hk : ∀k∈E5 [c],k∈ks) {K:A→Hp→Prop} (hm:(b0w o c).wp L hp K) : ∃a,Rep (a0f e hp ks) w v a∧K a hp:=by
 by_cases hn : ∃a,c = .att a
 ·obtain⟨a,rfl⟩:=hn
  simp only[CR]at hc
  exact⟨a,hc.mono (S':=a0f e hp ks) fun b hb=>⟨.inl hb,rfl⟩,hm⟩
 ·by_cases hn2:c = .nil
  ·subst hn2
   simp only[CR]at hc
   subst hc
   cases o with
   |none=>exact hm.elim
   |some t=>exact⟨_,.nil t _ rfl,hm⟩
  ·obtain⟨t,l,hl,hK⟩:=U6 h hc (b7p hm (fun a ha=>hn ⟨a,ha⟩) hn2)
   exact⟨.list t l,hl.rep hk,hK⟩
theorem a8A {c:C} {cs:List C} {k:Nat} (h:k∈E5 [c]):k∈E5 (c::cs):=by
 rw[show c::cs = [c]++cs from rfl,a0s]
 exact List.mem_append_left _ h
theorem a7w {c:C} {cs:List C} {k:Nat} (h:k∈E5 cs):k∈E5 (c::cs):=by
 rw[show c::cs = [c]++cs from rfl,a0s]
 exact List.mem_append_right _ h
theorem a2H (h:HR e hp w) {ks:List Nat} : ∀(cs:List C) (os:List (Option RT)) (vs:List Value) (K:List A→Hp→Prop),CRs e hp w vs cs→(∀u∈vs,one u)→(∀k∈E5 cs,k∈ks)→(b0v os cs).wp L hp K → ∃as,InA (a0f e hp ks) w vs as∧K as hp
 |[],os,vs,K,hc,_,_,hm=>by
  cases vs with
  |nil=>cases os<;>exact⟨[],trivial,hm⟩
  |cons _ _=>simp only[CRs]at hc
 |c::cs,os,vs,K,hc,h1,hk,hm=>by
  cases vs with
  |nil=>simp only[CRs]at hc
  |cons v vs =>
   simp only[CRs]at hc
   have go : ∀o os,((b0w o c).bind fun x=>(b0v os cs).bind fun r=>M.ret (x::r)).wp L hp K → ∃as,InA (a0f e hp ks) w (v::vs) as∧K as hp:=by
    intro o os hm
    rw[M.wp_bind]at hm
    obtain⟨a,ha,hm⟩:=b7o h hc.1 (fun k hk'=>hk k (a8A hk')) hm
    rw[M.wp_bind]at hm
    obtain⟨as,has,hm⟩:=a2H h cs os vs _ hc.2 (fun u hu=>h1 u (by simp[hu])) (fun k hk'=>hk k (a7w hk')) hm
    exact⟨a::as,⟨⟨ha,h1 v (by simp)⟩,has⟩,hm⟩
   cases os with
   |nil=>exact go none [] hm
   |cons o os=>exact go o os hm
theorem b7n (h:HR e hp w) {ks:List Nat} {p:PT} {x:V} {v:Value} {K:Th p.ty→Hp→Prop} (hv:VR e hp w v x) (hk : ∀k∈E5 x.cells,k∈ks) (hm:(c7F p x).wp L hp K) : ∃y,InV (a0f e hp ks) w v p y∧K y hp:=by
 unfold c7F at hm
 split at hm
 ·exact hm.elim
 ·rename_i htup
  split at hm
  ·rename_i hagg
   rw[M.wp_bind]at hm
   cases x with
   |tup _=>simp[V.d1S]at htup
   |agg cs =>
    simp only[VR]at hv
    obtain⟨arr,h1,h2,h3⟩:=hv
    obtain⟨as,has,hm⟩:=a2H h cs _ _ _ h2 h3 hk hm
    split at hm
    ·rename_i y hy
     refine⟨y,?_,hm⟩
     unfold InV
     rw[←hagg]
     exact⟨arr,h1,has.same (p.a4u as y hy)⟩
    ·exact hm.elim
   |one c =>
    simp only[VR]at hv
    have ho:one v:=by
     have h1:=hv.2
     unfold y8 at h1
     split at h1
     ·exfalso
      simp only[V.cells]at hm
      cases hn:p.nils with
      |nil=>rw[hn]at hm;exact hm
      |cons o os=>rw[hn]at hm;exact hm
     ·exact h1
    obtain⟨as,has,hm⟩:=a2H h [c] p.nils [v] _ (by simp only[CRs];exact⟨hv.1,trivial⟩) (fun u hu=>by simp at hu;subst hu;exact ho) hk hm
    split at hm
    ·rename_i y hy
     refine⟨y,?_,hm⟩
     unfold InV
     rw[←hagg]
     exact has.same (p.a4u as y hy)
    ·exact hm.elim
  ·exact hm.elim
theorem a0t (h:HR e hp w) {ks:List Nat} : ∀(ps:List PT) (xs:List V) (vs:List Value) (K:Args ps→Hp→Prop),VRs e hp w vs xs→(∀k∈E5 (M8 xs),k∈ks)→(a7x ps xs).wp L hp K → ∃y,InVs (a0f e hp ks) w vs ps y∧K y hp
 |[],[],vs,K,hc,_,hm=>by
  cases vs with
  |nil=>exact⟨(),trivial,hm⟩
  |cons _ _=>simp only[VRs]at hc
 |[],_::_,vs,K,hc,_,hm=>hm.elim
 |_::_,[],vs,K,hc,_,hm=>hm.elim
 |p::ps,x::xs,vs,K,hc,hk,hm=>by
  cases vs with
  |nil=>simp only[VRs]at hc
  |cons v vs =>
   simp only[VRs]at hc
   simp only[a7x]at hm
   rw[M.wp_bind]at hm
   have hk1 : ∀k∈E5 x.cells,k∈ks:=fun k hk'=>hk k (by simp only[M8,a0s];exact List.mem_append_left _ hk')
   have hk2 : ∀k∈E5 (M8 xs),k∈ks:=fun k hk'=>hk k (by simp only[M8,a0s];exact List.mem_append_right _ hk')
   obtain⟨y,hy,hm⟩:=b7n h hc.1 hk1 hm
   rw[M.wp_bind]at hm
   obtain⟨ys,hys,hm⟩:=a0t h ps xs vs _ hc.2 hk2 hm
   exact⟨(y,ys),⟨hy,hys⟩,hm⟩
theorem InVs.length {S:Nat→Prop} : ∀ {vs:List Value} {ps:List PT} {x:Args ps},InVs S w vs ps x→vs.length=ps.length
 |[],[],_,_=>rfl
 |_::_,_::_,_,h=>by simp[InVs.length h.2]
 |[],_::_,_,h=>h.elim
 |_::_,[],_,h=>h.elim
theorem W8 : ∀(ps:List PT) (x:Args ps),(a0v ps x).length=ps.length
 |[],_=>rfl
 |p::ps,x=>by simp[a0v,W8 ps]
theorem Stps.S (h:Stps e hp w e' hp' w') {b:Nat} (hb:e.S b):e'.S b:=by
 induction h with
 |refl=>exact hb
 |cons h1 _ ih=>exact ih (h1.2.1.S b hb).1
theorem c8n {k b:Nat} {q:Path} (hb:e.om b=some (k,q)):(e.freeze k).S b:=by
 simp only[Env.freeze]
 exact .inr ⟨q,hb⟩
theorem W5 : ∀(cs:List C) (e:Env) (hp:Hp) (K:Unit→Hp→Prop),HR e hp w→(W6 cs).wp L hp K → ∃e' hp',Stps e hp w e' hp' w∧K () hp' ∧ ∀b,a0f e hp (E5 cs) b→e'.S b
 |[],e,hp,K,_,hm=>⟨e,hp,.refl _ _ _,hm,fun b hb=>by
  rcases hb with hb|⟨k,q,_,hk,_⟩
  ·exact hb
  ·simp[E5]at hk⟩
 |c::cs,e,hp,K,h,hm=>by
  unfold W6 at hm
  split at hm
  ·contradiction
  ·rename_i k v cs' heq
   cases heq
   replace hm:=M.u4 hm
   split at hm
   ·rename_i v' dp g t l hx
    split at hm
    ·subst_vars
     replace hm:=M.D3 hm
     obtain⟨_,hm⟩:=hm
     have hst:=a1d h hx
     obtain⟨e',hp',h1,h2,h3⟩:=W5 cs _ _ _ hst.1 hm
     refine⟨e',hp',(Stps.one hst).trans h1,h2,fun b hb => ?_⟩
     rcases hb with hb|⟨k',q,hb,hk,hrow⟩
     ·exact((Stps.one hst).trans h1).S hb
     ·by_cases hkk:k'=k
      ·subst hkk
       exact h1.S (c8n hb)
      ·refine h3 b (.inr ⟨k',q,?_,?_,?_⟩)
       ·simp[Env.freeze,hb,hkk]
       ·simp only[E5,List.mem_cons]at hk
        exact hk.resolve_left hkk
       ·rw[Tr.j7 _ _ hkk];exact hrow
    ·exact hm.elim
   ·rename_i v' t l hx
    split at hm
    ·obtain⟨e',hp',h1,h2,h3⟩:=W5 cs _ _ _ h hm
     refine⟨e',hp',h1,h2,fun b hb=>h3 b ?_⟩
     rcases hb with hb|⟨k',q,hb,hk,hrow⟩
     ·exact .inl hb
     ·refine .inr ⟨k',q,hb,?_,hrow⟩
      simp only[E5,List.mem_cons]at hk
      refine hk.resolve_left fun hkk => ?_
      subst hkk
      rw[hx]at hrow
      exact hrow
    ·exact hm.elim
   ·exact hm.elim
  ·exact hm.elim
  ·rename_i hne hnp heq
   cases heq
   obtain⟨e',hp',h1,h2,h3⟩:=W5 cs _ _ _ h hm
   refine⟨e',hp',h1,h2,fun b hb=>h3 b ?_⟩
   rcases hb with hb|⟨k',q,hb,hk,hrow⟩
   ·exact .inl hb
   ·refine .inr ⟨k',q,hb,?_,hrow⟩
    unfold E5 at hk
    split at hk
    ·contradiction
    ·rename_i heq;cases heq;exact absurd rfl (hne _ _)
    ·rename_i heq;cases heq;exact absurd rfl (hnp _ _ _ _ _ _)
    ·rename_i heq;cases heq;exact hk
def a6P (S:Nat→Prop) (w:World) (b off:Nat) (ds:List C):Prop := ∃arr T,w.heap[b]? = some (.cells arr T (0,0))∧off+ds.length≤arr.size ∧ ∀j d,ds[j]? = some d → ∃a u,d = .att a∧arr[off+j]? = some u∧Rep S w u a∧one u
theorem b2I : ∀(cs:List C) (K:List C→Hp→Prop),(b0u cs).wp L hp K→(∀c∈cs,∃a,c = .att a)∧K cs hp
 |[],K,hm=>⟨by simp,hm⟩
 |c::cs,K,hm=>by
  simp only[b0u]at hm
  rw[M.wp_bind]at hm
  cases c with
  |att a =>
   simp only[d1R]at hm
   have hm2:((b0u cs).bind fun r=>M.ret (C.att a::r)).wp L hp K:=hm
   rw[M.wp_bind]at hm2
   obtain⟨h1,h2⟩:=b2I cs _ hm2
   exact⟨fun c hc=>by
    rcases List.mem_cons.1 hc with rfl|hc
    ·exact⟨a,rfl⟩
    ·exact h1 c hc,h2⟩
  |_=>exact hm.elim
theorem a6R {k:Nat} {bx:Bool} {cs:List C} (h:ChR e hp w k (.var bx cs)) (hc : ∀c∈cs,∃a,c = .att a) : ∃b off,e.E k = .pointer (some ⟨b,off,none⟩)∧e.om b=some (k,[])∧a6P e.S w b off cs:=by
 obtain⟨b,off,arr,T,h1,h2,h3,h4,h5⟩:=h
 refine⟨b,off,h1,h2,arr,T,h3,h4,fun j d hd => ?_⟩
 obtain⟨a,rfl⟩:=hc d (List.mem_of_getElem? hd)
 obtain⟨u,hu,hr,h1⟩:=h5 j _ hd
 simp only[CR]at hr
 exact⟨a,u,rfl,hu,hr,h1⟩
end
end Go.Sx
