/-
  Contracts: what is lent.
-/
import Derived.Test.YtmnapekfeenknaaGreatS4y
set_option linter.unusedVariables false
set_option linter.unusedSimpArgs false
namespace Go.Sx
section
variable {P:Program} {ctx:Ctx} {B:Base} {e e':Env} {a:Act} {w w':World} {σ τ : St} {L:Locks} {hp hp':Hp}
def b7I:Ch→Prop
 | .row _ _ _ _=>True
 |_=>False
def H8:List C→List Nat
 |[] => []
 | .own k _::cs=>k::H8 cs
 | .pref k _ _ _ _ _::cs=>k::H8 cs
 |_::cs=>H8 cs
def a1t (e:Env) (hp:Hp) (ks:List Nat) (b:Nat):Prop:=e.S b ∨ ∃k q,e.om b=some (k,q)∧k∈ks∧b7I (hp.get k).2
theorem a1F (cs ds:List C):H8 (cs++ds)=H8 cs++H8 ds:=by
 induction cs with
 |nil=>rfl
 |cons c cs ih=>cases c<;>simp[H8,ih]
def InA (S:Nat→Prop) (w:World):List Value→List A→Prop
 |[],[]=>True
 |v::vs,a::as=>(Rep S w v a∧one v)∧InA S w vs as
 |_,_=>False
def InV (S:Nat→Prop) (w:World) (v:Value) (p:PT) (x:Th p.ty):Prop :=
 match p.isAgg with
 |true => ∃arr,v = .agg arr∧InA S w arr.toList (p.encA x)
 |false=>InA S w [v] (p.encA x)
def InVs (S:Nat→Prop) (w:World):List Value→(ps:List PT)→Args ps→Prop
 |[],[],_=>True
 |v::vs,p::ps,x=>InV S w v p x.1∧InVs S w vs ps x.2
 |_,_,_=>False
theorem InA.same {S:Nat→Prop} {as bs:List A} (hs:Same as bs) : ∀ {vs:List Value},InA S w vs as→InA S w vs bs:=by
 induction hs with
 |nil=>exact fun h=>h
 |cons h1 _ ih =>
  intro vs h
  cases vs with
  |nil=>exact h
  |cons v vs=>exact⟨⟨h.1.1.same h1,h.1.2⟩,ih h.2⟩
theorem InA.CRs {S:Nat→Prop} (hS : ∀b,S b→e.S b) : ∀ {vs:List Value} {as:List A},InA S w vs as→CRs e hp w vs (as.map C.att)
 |[],[],_=>by simp only[List.map_nil,Sx.CRs]
 |v::vs,a::as,h=>by simp only[List.map_cons,Sx.CRs,CR];exact⟨h.1.1.mono fun b hb=>⟨hS b hb,rfl⟩,InA.CRs hS h.2⟩
 |[],_::_,h=>h.elim
 |_::_,[],h=>h.elim
theorem InA.one {S:Nat→Prop} : ∀ {vs:List Value} {as:List A},InA S w vs as → ∀u∈vs,Sx.one u
 |[],_,_,u,hu=>by simp at hu
 |v::vs,[],h,_,_=>h.elim
 |v::vs,a::as,h,u,hu=>by
  rcases List.mem_cons.1 hu with rfl|hu
  ·exact h.1.2
  ·exact InA.one h.2 u hu
theorem InV.VR {S:Nat→Prop} (hS : ∀b,S b→e.S b) {v:Value} {p:PT} {x:Th p.ty} (h:InV S w v p x):VR e hp w v (p.enc x):=by
 unfold InV at h
 unfold PT.enc
 split at h
 ·rename_i hp'
  rw[hp']
  obtain⟨arr,h1,h2⟩:=h
  simp only[Sx.VR]
  exact⟨arr,h1,h2.CRs hS,h2.one⟩
 ·rename_i hp'
  rw[hp']
  have hc:=h.CRs (e:=e) (hp:=hp) hS
  have ho:=h.one
  revert hc
  generalize (p.encA x).map C.att=l
  intro hc
  have hl:=hc.length
  match l,hl with
  |[c],_ =>
   simp only[Sx.CRs]at hc
   simp only[Sx.VR]
   exact⟨hc.1,A4.E0 (ho v (by simp))⟩
  |[],hl=>simp at hl
  |_::_::_,hl=>simp at hl
theorem InVs.VRs {S:Nat→Prop} (hS : ∀b,S b→e.S b) : ∀ {vs:List Value} {ps:List PT} {x:Args ps},InVs S w vs ps x→VRs e hp w vs (a1I ps x)
 |[],[],_,_=>by simp only[a1I,Sx.VRs]
 |v::vs,p::ps,x,h=>by simp only[a1I,Sx.VRs];exact⟨h.1.VR hS,InVs.VRs hS h.2⟩
 |[],_::_,_,h=>h.elim
 |_::_,[],_,h=>h.elim
theorem Rep.ok {S:Nat→Prop} {v:Value} {a:A} (h:Rep S w v a):OkA a:=by
 induction h with
 |int k n h1 h2=>exact .int k n h1 h2
 |bool b=>exact .bool b
 |nil t l h=>exact .list t l (by rw[h];simp) fun i j a hi=>by rw[h]at hi;simp at hi
 |emp t l _ _ h=>exact .list t l (by rw[h];simp) fun i j a hi=>by rw[h]at hi;simp at hi
 |row t l b off cap cs T fz vs as hb hh hc hl hg _ ih =>
  refine .list t l hl fun i j a hi ha => ?_
  have hj:j<t.size:=by
   have:=(List.getElem?_eq_some_iff.1 ha).1
   rw[G4]at this
   exact this
  have h1:=(hg i j hi hj).1
  unfold celA at h1
  rw[ha]at h1
  cases h1
  exact ih i j hi hj
theorem InA.ok {S:Nat→Prop} : ∀ {vs:List Value} {as:List A},InA S w vs as → ∀a∈as,OkA a
 |[],[],_,a,ha=>by simp at ha
 |v::vs,b::as,h,a,ha=>by
  rcases List.mem_cons.1 ha with rfl|ha
  ·exact h.1.1.ok
  ·exact InA.ok h.2 a ha
 |[],_::_,h,_,_=>h.elim
 |_::_,[],h,_,_=>h.elim
theorem InVs.ok {S:Nat→Prop} : ∀ {vs:List Value} {ps:List PT} {x:Args ps},InVs S w vs ps x→b8l ps x
 |[],[],_,_=>trivial
 |v::vs,p::ps,x,h=>by
  refine⟨?_,InVs.ok h.2⟩
  have h1:=h.1
  unfold InV at h1
  split at h1
  ·obtain⟨arr,_,h2⟩:=h1;exact h2.ok
  ·exact h1.ok
 |[],_::_,_,h=>h.elim
 |_::_,[],_,h=>h.elim
theorem Lst.rep {v:Value} {t:RT} {l:Th (List t.ty)} {c:C} (h:Lst e hp w v t l c) {ks:List Nat} (hk : ∀k∈H8 [c],k∈ks):Rep (a1t e hp ks) w v (.list t l):=by
 cases h with
 |att hr=>exact hr.mono fun b hb=>⟨.inl hb,rfl⟩
 |row k ver g dp hx hv hch =>
  have hkk:k∈ks:=hk k (by simp[H8])
  have hrow:b7I (hp.get k).2:=by rw[hx];trivial
  rw[hv]
  cases dp with
  |true =>
   have hown:OwnA e.om k w [] (e.E k) (.list t l):=hch
   exact hown.rep fun b r hb=>⟨.inr ⟨k,_,hb,hkk,hrow⟩,rfl⟩
  |false =>
   rcases hch with ⟨h1,h2⟩|⟨b,cap,cs,T,vs,as,h1,h2,h3⟩
   ·rw[h1];exact .nil t l h2
   ·rw[h1.hv]
    exact .row t l b 0 cap cs T (0,0) vs as (.inr ⟨k,_,h2,hkk,hrow⟩) h1.hh h1.hc h1.hl (fun i j hi hj=>by simpa using h1.hg i j hi hj) fun i j hi hj=>(h3 i j hi hj).mono fun b hb=>⟨.inl hb,rfl⟩
 |ro k ver hx hv hr=>exact hr.mono fun b hb=>⟨.inl hb,rfl⟩
 |pref k ver g pre i j t0 l0 hx hs hm hown =>
  have hkk:k∈ks:=hk k (by simp[H8])
  have hrow:b7I (hp.get k).2:=by rw[hx];trivial
  exact(a2D _ _ _ _ _ _ _ _ hown hs hm).rep fun b r hb=>⟨.inr ⟨k,_,hb,hkk,hrow⟩,rfl⟩
theorem c0D {o:Option RT} {c:C} {K:A→Hp→Prop} (hm:(b2N o c).wp L hp K) (hn : ∀a,c ≠ .att a) (hn2:c ≠ .nil):(a2K c).wp L hp fun x hp'=>K (.list x.1 x.2) hp':=by
 cases c with
 |own k v =>
  simp only[b2N,a2K,M.wp]at *
  split at hm
  ·exact hm.elim
  ·rename_i hc
   rw[if_neg hc]
   revert hm
   generalize hp.get k=x
   obtain⟨v',ch⟩:=x
   cases ch<;>intro hm<;>simp only at hm ⊢ <;> (try exact hm.elim)<;>split at hm<;>(try exact hm.elim)<;>rename_i hv<;>rw[if_pos hv]<;>exact hm
 |pref k v g pre i j =>
  simp only[b2N,a2K,M.wp]at *
  split at hm
  ·exact hm.elim
  ·rename_i hc
   rw[if_neg hc]
   revert hm
   generalize hp.get k=x
   obtain⟨v',ch⟩:=x
   cases ch with
   |row dp g' t0 l0 =>
    cases dp with
    |true =>
     intro hm
     simp only at hm ⊢
     split at hm
     ·rename_i hv
      rw[if_pos hv]
      split at hm
      ·rename_i hs
       rw[hs]
       exact hm
      ·exact hm.elim
     ·exact hm.elim
    |false=>intro hm;exact hm.elim
   |_=>intro hm;exact hm.elim
 |att a=>exact absurd rfl (hn a)
 |nil=>exact absurd rfl hn2
 |_=>exact hm.elim
theorem c0C (h:HR e hp w) {o:Option RT} {c:C} {v:Value} (hc:CR e hp w v c) {ks:List Nat} (hk : ∀k∈H8 [c],k∈ks) {K:A→Hp→Prop} (hm:(b2N o c).wp L hp K) : ∃a,Rep (a1t e hp ks) w v a∧K a hp:=by
 by_cases hn : ∃a,c = .att a
 ·obtain⟨a,rfl⟩:=hn
  simp only[CR]at hc
  exact⟨a,hc.mono (S':=a1t e hp ks) fun b hb=>⟨.inl hb,rfl⟩,hm⟩
 ·by_cases hn2:c = .nil
  ·subst hn2
   simp only[CR]at hc
   subst hc
   cases o with
   |none=>exact hm.elim
   |some t=>exact⟨_,.nil t _ rfl,hm⟩
  ·obtain⟨t,l,hl,hK⟩:=Z5 h hc (c0D hm (fun a ha=>hn ⟨a,ha⟩) hn2)
   exact⟨.list t l,hl.rep hk,hK⟩
theorem b0X {c:C} {cs:List C} {k:Nat} (h:k∈H8 [c]):k∈H8 (c::cs):=by
 rw[show c::cs = [c]++cs from rfl,a1F]
 exact List.mem_append_left _ h
theorem a9K {c:C} {cs:List C} {k:Nat} (h:k∈H8 cs):k∈H8 (c::cs):=by
 rw[show c::cs = [c]++cs from rfl,a1F]
 exact List.mem_append_right _ h
theorem a4s (h:HR e hp w) {ks:List Nat} : ∀(cs:List C) (os:List (Option RT)) (vs:List Value) (K:List A→Hp→Prop),CRs e hp w vs cs→(∀u∈vs,one u)→(∀k∈H8 cs,k∈ks)→(b2M os cs).wp L hp K → ∃as,InA (a1t e hp ks) w vs as∧K as hp
 |[],os,vs,K,hc,_,_,hm=>by
  cases vs with
  |nil=>cases os<;>exact⟨[],trivial,hm⟩
  |cons _ _=>simp only[CRs]at hc
 |c::cs,os,vs,K,hc,h1,hk,hm=>by
  cases vs with
  |nil=>simp only[CRs]at hc
  |cons v vs =>
   simp only[CRs]at hc
   have go : ∀o os,((b2N o c).bind fun x=>(b2M os cs).bind fun r=>M.ret (x::r)).wp L hp K → ∃as,InA (a1t e hp ks) w (v::vs) as∧K as hp:=by
    intro o os hm
    rw[M.wp_bind]at hm
    obtain⟨a,ha,hm⟩:=c0C h hc.1 (fun k hk'=>hk k (b0X hk')) hm
    rw[M.wp_bind]at hm
    obtain⟨as,has,hm⟩:=a4s h cs os vs _ hc.2 (fun u hu=>h1 u (by simp[hu])) (fun k hk'=>hk k (a9K hk')) hm
    exact⟨a::as,⟨⟨ha,h1 v (by simp)⟩,has⟩,hm⟩
   cases os with
   |nil=>exact go none [] hm
   |cons o os=>exact go o os hm
theorem c0B (h:HR e hp w) {ks:List Nat} {p:PT} {x:V} {v:Value} {K:Th p.ty→Hp→Prop} (hv:VR e hp w v x) (hk : ∀k∈H8 x.cells,k∈ks) (hm:(d2K p x).wp L hp K) : ∃y,InV (a1t e hp ks) w v p y∧K y hp:=by
 unfold d2K at hm
 split at hm
 ·exact hm.elim
 ·rename_i htup
  split at hm
  ·rename_i hagg
   rw[M.wp_bind]at hm
   cases x with
   |tup _=>simp[V.d7n]at htup
   |agg cs =>
    simp only[VR]at hv
    obtain⟨arr,h1,h2,h3⟩:=hv
    obtain⟨as,has,hm⟩:=a4s h cs _ _ _ h2 h3 hk hm
    split at hm
    ·rename_i y hy
     refine⟨y,?_,hm⟩
     unfold InV
     rw[←hagg]
     exact⟨arr,h1,has.same (p.a6o as y hy)⟩
    ·exact hm.elim
   |one c =>
    simp only[VR]at hv
    have ho:one v:=by
     have h1:=hv.2
     unfold A4 at h1
     split at h1
     ·exfalso
      simp only[V.cells]at hm
      cases hn:p.nils with
      |nil=>rw[hn]at hm;exact hm
      |cons o os=>rw[hn]at hm;exact hm
     ·exact h1
    obtain⟨as,has,hm⟩:=a4s h [c] p.nils [v] _ (by simp only[CRs];exact⟨hv.1,trivial⟩) (fun u hu=>by simp at hu;subst hu;exact ho) hk hm
    split at hm
    ·rename_i y hy
     refine⟨y,?_,hm⟩
     unfold InV
     rw[←hagg]
     exact has.same (p.a6o as y hy)
    ·exact hm.elim
  ·exact hm.elim
theorem a1G (h:HR e hp w) {ks:List Nat} : ∀(ps:List PT) (xs:List V) (vs:List Value) (K:Args ps→Hp→Prop),VRs e hp w vs xs→(∀k∈H8 (R8 xs),k∈ks)→(a9L ps xs).wp L hp K → ∃y,InVs (a1t e hp ks) w vs ps y∧K y hp
 |[],[],vs,K,hc,_,hm=>by
  cases vs with
  |nil=>exact⟨(),trivial,hm⟩
  |cons _ _=>simp only[VRs]at hc
 |[],_::_,vs,K,hc,_,hm=>hm.elim
 |_::_,[],vs,K,hc,_,hm=>hm.elim
 |p::ps,x::xs,vs,K,hc,hk,hm=>by
  cases vs with
  |nil=>simp only[VRs]at hc
  |cons v vs =>
   simp only[VRs]at hc
   simp only[a9L]at hm
   rw[M.wp_bind]at hm
   have hk1 : ∀k∈H8 x.cells,k∈ks:=fun k hk'=>hk k (by simp only[R8,a1F];exact List.mem_append_left _ hk')
   have hk2 : ∀k∈H8 (R8 xs),k∈ks:=fun k hk'=>hk k (by simp only[R8,a1F];exact List.mem_append_right _ hk')
   obtain⟨y,hy,hm⟩:=c0B h hc.1 hk1 hm
   rw[M.wp_bind]at hm
   obtain⟨ys,hys,hm⟩:=a1G h ps xs vs _ hc.2 hk2 hm
   exact⟨(y,ys),⟨hy,hys⟩,hm⟩
theorem InVs.length {S:Nat→Prop} : ∀ {vs:List Value} {ps:List PT} {x:Args ps},InVs S w vs ps x→vs.length=ps.length
 |[],[],_,_=>rfl
 |_::_,_::_,_,h=>by simp[InVs.length h.2]
 |[],_::_,_,h=>h.elim
 |_::_,[],_,h=>h.elim
theorem a0x : ∀(ps:List PT) (x:Args ps),(a1I ps x).length=ps.length
 |[],_=>rfl
 |p::ps,x=>by simp[a1I,a0x ps]
theorem Stps.S (h:Stps e hp w e' hp' w') {b:Nat} (hb:e.S b):e'.S b:=by
 induction h with
 |refl=>exact hb
 |cons h1 _ ih=>exact ih (h1.2.1.S b hb).1
theorem d3u {k b:Nat} {q:Path} (hb:e.om b=some (k,q)):(e.freeze k).S b:=by
 simp only[Env.freeze]
 exact .inr ⟨q,hb⟩
theorem a0v : ∀(cs:List C) (e:Env) (hp:Hp) (K:Unit→Hp→Prop),HR e hp w→(a0w cs).wp L hp K → ∃e' hp',Stps e hp w e' hp' w∧K () hp' ∧ ∀b,a1t e hp (H8 cs) b→e'.S b
 |[],e,hp,K,_,hm=>⟨e,hp,.refl _ _ _,hm,fun b hb=>by
  rcases hb with hb|⟨k,q,_,hk,_⟩
  ·exact hb
  ·simp[H8]at hk⟩
 |c::cs,e,hp,K,h,hm=>by
  unfold a0w at hm
  split at hm
  ·contradiction
  ·rename_i k v cs' heq
   cases heq
   replace hm:=M.y6 hm
   split at hm
   ·rename_i v' dp g t l hx
    split at hm
    ·subst_vars
     replace hm:=M.F3 hm
     obtain⟨_,hm⟩:=hm
     have hst:=a2x h hx
     obtain⟨e',hp',h1,h2,h3⟩:=a0v cs _ _ _ hst.1 hm
     refine⟨e',hp',(Stps.one hst).trans h1,h2,fun b hb => ?_⟩
     rcases hb with hb|⟨k',q,hb,hk,hrow⟩
     ·exact((Stps.one hst).trans h1).S hb
     ·by_cases hkk:k'=k
      ·subst hkk
       exact h1.S (d3u hb)
      ·refine h3 b (.inr ⟨k',q,?_,?_,?_⟩)
       ·simp[Env.freeze,hb,hkk]
       ·simp only[H8,List.mem_cons]at hk
        exact hk.resolve_left hkk
       ·rw[Tr.l7 _ _ hkk];exact hrow
    ·exact hm.elim
   ·rename_i v' t l hx
    split at hm
    ·obtain⟨e',hp',h1,h2,h3⟩:=a0v cs _ _ _ h hm
     refine⟨e',hp',h1,h2,fun b hb=>h3 b ?_⟩
     rcases hb with hb|⟨k',q,hb,hk,hrow⟩
     ·exact .inl hb
     ·refine .inr ⟨k',q,hb,?_,hrow⟩
      simp only[H8,List.mem_cons]at hk
      refine hk.resolve_left fun hkk => ?_
      subst hkk
      rw[hx]at hrow
      exact hrow
    ·exact hm.elim
   ·exact hm.elim
  ·exact hm.elim
  ·rename_i hne hnp heq
   cases heq
   obtain⟨e',hp',h1,h2,h3⟩:=a0v cs _ _ _ h hm
   refine⟨e',hp',h1,h2,fun b hb=>h3 b ?_⟩
   rcases hb with hb|⟨k',q,hb,hk,hrow⟩
   ·exact .inl hb
   ·refine .inr ⟨k',q,hb,?_,hrow⟩
    unfold H8 at hk
    split at hk
    ·contradiction
    ·rename_i heq;cases heq;exact absurd rfl (hne _ _)
    ·rename_i heq;cases heq;exact absurd rfl (hnp _ _ _ _ _ _)
    ·rename_i heq;cases heq;exact hk
def a9d (S:Nat→Prop) (w:World) (b off:Nat) (ds:List C):Prop := ∃arr T,w.heap[b]? = some (.cells arr T (0,0))∧off+ds.length≤arr.size ∧ ∀j d,ds[j]? = some d → ∃a u,d = .att a∧arr[off+j]? = some u∧Rep S w u a∧one u
theorem b5A : ∀(cs:List C) (K:List C→Hp→Prop),(b2L cs).wp L hp K→(∀c∈cs,∃a,c = .att a)∧K cs hp
 |[],K,hm=>⟨by simp,hm⟩
 |c::cs,K,hm=>by
  simp only[b2L]at hm
  rw[M.wp_bind]at hm
  cases c with
  |att a =>
   simp only[d7l]at hm
   have hm2:((b2L cs).bind fun r=>M.ret (C.att a::r)).wp L hp K:=hm
   rw[M.wp_bind]at hm2
   obtain⟨h1,h2⟩:=b5A cs _ hm2
   exact⟨fun c hc=>by
    rcases List.mem_cons.1 hc with rfl|hc
    ·exact⟨a,rfl⟩
    ·exact h1 c hc,h2⟩
  |_=>exact hm.elim
theorem a9g {k:Nat} {bx:Bool} {cs:List C} (h:ChR e hp w k (.var bx cs)) (hc : ∀c∈cs,∃a,c = .att a) : ∃b off,e.E k = .pointer (some ⟨b,off,none⟩)∧e.om b=some (k,[])∧a9d e.S w b off cs:=by
 obtain⟨b,off,arr,T,h1,h2,h3,h4,h5⟩:=h
 refine⟨b,off,h1,h2,arr,T,h3,h4,fun j d hd => ?_⟩
 obtain⟨a,rfl⟩:=hc d (List.mem_of_getElem? hd)
 obtain⟨u,hu,hr,h1⟩:=h5 j _ hd
 simp only[CR]at hr
 exact⟨a,u,rfl,hu,hr,h1⟩
end
end Go.Sx
