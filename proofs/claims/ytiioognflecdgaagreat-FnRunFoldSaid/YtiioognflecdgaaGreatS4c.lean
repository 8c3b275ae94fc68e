/-
  Contracts: what is handed back gets keys of the caller's.
-/
import Derived.Test.YtiioognflecdgaaGreatS4b
set_option linter.unusedVariables false
set_option linter.unusedSimpArgs false
namespace Go.Sx
section
variable {P:Program} {ctx:Ctx} {B:Base} {e e' ef:Env} {a:Act} {w w':World} {σ τ : St} {L:Locks} {hp hp':Hp} {N:Nat→Prop}
structure GS (N:Nat→Prop) (w:World) (ef:Env) (fl:List (Option Nat)) (e:Env) (hp:Hp) (e':Env) (hp':Hp):Prop where
 hr:HR e' hp' w
 vr : ∀x v,VR e hp w v x→VR e' hp' w v x
 up : ∀as ts,UpR e hp w as ts→UpR e' hp' w as ts
 S : ∀b,e'.S b↔e.S b
 old : ∀b,¬N b→e.om b=none→e'.om b=none
 box : ∀b k cs,e.om b=some (k,[])→(hp.get k).2 = .var true cs→e'.om b=some (k,[])∧e'.E k=e.E k∧hp'.get k=hp.get k
 rest : ∀b,e.om b=none→(∀k q,ef.om b=some (k,q)→some k ∉ fl)→e'.om b=none
theorem GS.refl (h:HR e hp w):GS N w ef [] e hp e hp:=⟨h,fun _ _ h=>h,fun _ _ h=>h,fun _=>Iff.rfl,fun _ _ h=>h,fun _ _ _ h _=>⟨h,rfl,rfl⟩,fun _ h _=>h⟩
theorem GS.idle (h:HR e hp w):GS N w ef [none] e hp e hp:=⟨h,fun _ _ h=>h,fun _ _ h=>h,fun _=>Iff.rfl,fun _ _ h=>h,fun _ _ _ h _=>⟨h,rfl,rfl⟩,fun _ h _=>h⟩
theorem GS.trans {e1 e2:Env} {hp1 hp2:Hp} {f1 f2:List (Option Nat)} (h1:GS N w ef f1 e hp e1 hp1) (h2:GS N w ef f2 e1 hp1 e2 hp2):GS N w ef (f1++f2) e hp e2 hp2 :=
 ⟨h2.hr,fun x v h=>h2.vr x v (h1.vr x v h),fun as ts h=>h2.up as ts (h1.up as ts h),fun b=>(h2.S b).trans (h1.S b),fun b hb h=>h2.old b hb (h1.old b hb h),fun b k cs h hk=>by
  obtain⟨g1,g2,g3⟩:=h1.box b k cs h hk
  obtain⟨g4,g5,g6⟩:=h2.box b k cs g1 (by rw[g3];exact hk)
  exact⟨g4,g5.trans g2,g6.trans g3⟩,fun b h hk=>h2.rest b (h1.rest b h fun k q hkq hm=>hk k q hkq (List.mem_append_left _ hm)) fun k q hkq hm=>hk k q hkq (List.mem_append_right _ hm)⟩
def Env.F5 (e ef:Env) (k kb:Nat) (v:Value):Env where
 S:=e.S
 om:=fun b=>match ef.om b with
  |some (k',q)=>if k'=k then some (kb,q)else(match e.om b with
   |some (k2,q2)=>if k2=kb then none else some (k2,q2)
   |none=>none)
  |none=>match e.om b with
   |some (k2,q2)=>if k2=kb then none else some (k2,q2)
   |none=>none
 E:=fun j=>if j=kb then v else e.E j
theorem b2Z {k kb b:Nat} {v:Value} {q:Path} (h:ef.om b=some (k,q)):(e.F5 ef k kb v).om b=some (kb,q):=by simp[Env.F5,h]
theorem c0c {k kb b k2:Nat} {v:Value} {q2:Path} (hd : ∀b q,ef.om b=some (k,q)→e.om b=none) (h:e.om b=some (k2,q2)) (hne:k2≠kb):(e.F5 ef k kb v).om b=some (k2,q2):=by
 cases hf:ef.om b with
 |none=>simp[Env.F5,hf,h,hne]
 |some x =>
  obtain⟨k',q⟩:=x
  have:k'≠k:=fun he=>by
   subst he
   rw[hd b q hf]at h
   cases h
  simp[Env.F5,hf,this,h,hne]
theorem a3L {k kb b:Nat} {v:Value} (h:e.om b=none) (hn : ∀q,ef.om b≠some (k,q)):(e.F5 ef k kb v).om b=none:=by
 cases hf:ef.om b with
 |none=>simp[Env.F5,hf,h]
 |some x =>
  obtain⟨k',q⟩:=x
  have:k'≠k:=fun he=>by
   subst he
   exact hn q hf
  simp[Env.F5,hf,this,h]
theorem c8X {k kb b:Nat} {v:Value} {x:Nat×Path} (h:(e.F5 ef k kb v).om b=some x):(∃q,ef.om b=some (k,q)) ∨ ∃y,e.om b=some y:=by
 cases hf:ef.om b with
 |none =>
  simp only[Env.F5,hf]at h
  split at h
  ·rename_i he;exact .inr ⟨_,he⟩
  ·cases h
 |some y =>
  obtain⟨k',q⟩:=y
  simp only[Env.F5,hf]at h
  split at h
  ·rename_i he;subst he;exact .inl ⟨q,rfl⟩
  ·split at h
   ·rename_i he;exact .inr ⟨_,he⟩
   ·cases h
theorem a9b (h:HR e hp w) {k kb:Nat} {v:Value} {x:Ch} (hd : ∀b q,ef.om b=some (k,q)→N b∧e.om b=none ∧ ¬e.S b∧b<w.heap.size) (hk:keeps (hp.get kb) ((hp.get kb).1+1,x)=true)
  (hch:SR e hp w (e.F5 ef k kb v) (hp.set kb ((hp.get kb).1+1,x)) w→ChR (e.F5 ef k kb v) (hp.set kb ((hp.get kb).1+1,x)) w kb x) :
  GS N w ef [some k] e hp (e.F5 ef k kb v) (hp.set kb ((hp.get kb).1+1,x)):=by
 have hold : ∀b k2 q2,k2≠kb→e.om b=some (k2,q2)→(e.F5 ef k kb v).om b=some (k2,q2)∧w.heap[b]? = w.heap[b]? := fun b k2 q2 hne hb=>⟨c0c (fun b q hf=>(hd b q hf).2.1) hb hne,rfl⟩
 have hsr:SR e hp w (e.F5 ef k kb v) (hp.set kb ((hp.get kb).1+1,x)) w:=by
  refine⟨fun b hb=>⟨hb,rfl⟩,fun j => ?_⟩
  by_cases hj:j=kb
  ·subst hj
   exact .bump (by rw[Tr.e8];exact Nat.lt_succ_self _)
  ·exact .same (Tr.j7 _ _ hj) (by simp[Env.F5,hj]) fun b q hb=>hold b j q hj hb
 refine⟨h.step hsr (fun j => ?_) (fun b hb => ?_) (fun b y hb => ?_),fun x v hv=>VR.mono hsr x v hv,fun as ts hu=>UpR.mono hsr as ts hu,fun b=>Iff.rfl,fun b hb ho => ?_,fun b k2 cs ho hv => ?_,fun b ho hn => ?_⟩
 ·by_cases hj:j=kb
  ·subst hj
   right
   rw[Tr.e8]
   exact hch hsr
  ·left
   exact⟨Tr.j7 _ _ hj,by simp[Env.F5,hj],fun b q hb=>hold b j q hj hb⟩
 ·obtain⟨h1,h2⟩:=h.sOk b hb
  exact⟨a3L h1 fun q hf=>(hd b q hf).2.2.1 hb,h2⟩
 ·rcases c8X hb with ⟨q,hq⟩|⟨y,hy⟩
  ·exact(hd b q hq).2.2.2
  ·exact h.oOk b y hy
 ·exact a3L ho fun q hf=>(hb (hd b q hf).1)
 ·have hj:k2≠kb:=fun he=>by
   subst he
   obtain⟨cs',_,_,h6⟩:=a0F hk hv
   simp at h6
  exact⟨(hold b k2 [] hj ho).1,by simp[Env.F5,hj],Tr.j7 _ _ hj⟩
 ·exact a3L ho fun q hf=>hn k q hf (by simp)
def Dis (N:Nat→Prop) (w:World) (ef:Env) (fl:List (Option Nat)) (e:Env):Prop := ∀k,some k∈fl → ∀b q,ef.om b=some (k,q)→N b∧e.om b=none ∧ ¬e.S b∧b<w.heap.size
theorem Dis.step {f1 f2:List (Option Nat)} (h:Dis N w ef (f1++f2) e) (hg:GS N w ef f1 e hp e' hp') (hp:(f1++f2).Pairwise fun x y => ∀k,x=some k→y≠some k):Dis N w ef f2 e':=by
 intro k hk b q hb
 obtain⟨g1,g2,g3,g4⟩:=h k (List.mem_append_right _ hk) b q hb
 refine⟨g1,hg.rest b g2 fun k' q' hb' hm => ?_,fun hs=>g3 ((hg.S b).1 hs),g4⟩
 rw[hb]at hb'
 cases hb'
 exact(List.pairwise_append.1 hp).2.2 _ hm _ hk k rfl rfl
theorem GS.nil (h:HR e hp w) {kb:Nat} {t:RT} {l:Th (List t.ty)} {v:Value} (hk:keeps (hp.get kb) ((hp.get kb).1+1,.row true 0 t l)=true) (hown : ∀ {om},OwnA om kb w [] v (.list t l)) :
  GS N w ef [none] e hp (e.mv kb none v (fun _ _=>none)) (hp.set kb ((hp.get kb).1+1,.row true 0 t l)):=by
 have hst:Stp e hp w (e.mv kb none v (fun _ _=>none)) (hp.set kb ((hp.get kb).1+1,.row true 0 t l)) w:=Y7 h kb v _ none _ (Nat.lt_succ_self _) hk (fun k' q p hg=>by cases hg) rfl rfl rfl (Nat.le_refl _) (fun b hb=>by cases hb) (fun b _ => .inl rfl) (fun _=>by
  show OwnA _ kb w [] _ _
  have hE:(e.mv kb none v (fun _ _=>none)).E kb=v:=by simp[Env.mv]
  rw[hE]
  exact hown)
 have hom : ∀b,e.om b=none→(e.mv kb none v (fun _ _=>none)).om b=none:=fun b hb=>by simp[Env.mv,hb]
 refine⟨hst.1,fun x v hv=>VR.mono hst.2.1 x v hv,fun as ts hu=>UpR.mono hst.2.1 as ts hu,fun b=>Iff.rfl,fun b _ hb=>hom b hb,fun b k cs hb hv => ?_,fun b hb _=>hom b hb⟩
 have hj:k≠kb:=fun he=>by
  subst he
  obtain⟨cs',_,_,h6⟩:=a0F hk hv
  simp at h6
 exact⟨by simp[Env.mv,hb,hj],by simp[Env.mv,hj],Tr.j7 _ _ hj⟩
theorem a4U (h:HR e hp w) {kb:Nat} {c:C} {v:Value} {f:Option Nat} (hc:FinC ef w v c f) (h1:y8 c v) (hd:Dis N w ef [f] e) (hS:a4P c=true → ∀b,ef.S b→e.S b) {K:C→Hp→Prop} (hm:(outC kb c).wp L hp K) :
  ∃e' hp' d,GS N w ef [f] e hp e' hp'∧CR e' hp' w v d∧y8 d v∧K d hp':=by
 unfold outC at hm
 split at hm
 ·rename_i t l
  replace hm:=M.u4 hm
  replace hm:=M.D3 hm
  obtain⟨hk,hm⟩:=hm
  rcases hc with ⟨k,rfl,hown⟩|⟨rfl,hv,hl⟩
  rotate_left
  ·have hE:(e.mv kb none v (fun _ _=>none)).E kb=v:=by simp[Env.mv]
   exact⟨_,_,_,GS.nil h hk (by rw[hv];exact .nil _ _ _ hl),a1a hE,y8.D5 h1,hm⟩
  have hE:(e.F5 ef k kb v).E kb=v:=by simp[Env.F5]
  have hg:=a9b (N:=N) (v:=v) h (hd k (by simp)) hk (fun _=>by
   show OwnA _ kb w [] _ _
   rw[hE]
   exact hown.mono [] fun b r hb=>⟨b2Z hb,rfl⟩)
  exact⟨_,_,_,hg,a1a hE,y8.D5 h1,hm⟩
 ·rename_i ds
  obtain⟨k,b,off,rfl,hv,hb,hin⟩:=hc
  replace hm:=M.u4 hm
  replace hm:=M.D3 hm
  obtain⟨hk,hm⟩:=hm
  have hE:(e.F5 ef k kb v).E kb=v:=by simp[Env.F5]
  have hg:=a9b (N:=N) (v:=v) (x := .var false ds) h (hd k (by simp)) hk (fun hsr=>by
   obtain⟨arr,T,g1,g2,g3⟩:=hin
   refine⟨b,off,arr,T,by rw[hE,hv],b2Z hb,g1,g2,fun j c hc => ?_⟩
   obtain⟨a,u,rfl,hu,hr,ho⟩:=g3 j c hc
   refine⟨u,hu,?_,ho⟩
   simp only[CR]
   cases a with
   |list t l =>
    refine hr.mono fun b hb=>⟨hS ?_ b hb,rfl⟩
    simp only[a4P,List.any_eq_true]
    exact⟨_,List.mem_of_getElem? hc,rfl⟩
   |int kd n=>cases hr with
    |int _ _ a1 a2=>exact .int kd n a1 a2
   |bool b=>cases hr;exact .bool b)
  refine⟨_,_,_,hg,?_,y8.D5 (by rw[hv];rfl),hm⟩
  simp only[CR,Tr.e8]
  exact⟨Nat.le_refl _,fun _=>⟨b,off,by rw[hE,hv],by rw[hv];rfl⟩⟩
 ·rename_i a
  obtain⟨rfl,hr⟩:=hc
  refine⟨e,hp,.att a,GS.idle h,?_,h1,hm⟩
  simp only[CR]
  cases a with
  |list t l=>exact hr.mono fun b hb=>⟨hS rfl b hb,rfl⟩
  |int kd n=>cases hr with
   |int _ _ a1 a2=>exact .int kd n a1 a2
  |bool b=>cases hr;exact .bool b
 ·obtain⟨rfl,hr⟩:=hc
  exact⟨e,hp,.nil,GS.idle h,by simpa only[CR]using hr,h1,hm⟩
 ·have hf:f=none:=hc
  subst hf
  exact⟨e,hp,.unk,GS.idle h,by simp only[CR],trivial,hm⟩
 ·exact hm.elim
theorem a8a : ∀(cs:List C) (kb:Nat) (vs:List Value) (fl:List (Option Nat)) (e:Env) (hp:Hp) (K:List C→Hp→Prop),HR e hp w→a2m ef w vs cs fl→(∀u∈vs,one u)→Dis N w ef fl e→fl.Pairwise (fun x y => ∀k,x=some k→y≠some k) →
  (∀c∈cs,a4P c=true → ∀b,ef.S b→e.S b)→(c1z kb cs).wp L hp K → ∃e' hp' ds,GS N w ef fl e hp e' hp'∧CRs e' hp' w vs ds∧K ds hp'
 |[],kb,vs,fl,e,hp,K,h,hc,_,_,_,_,hm=>by
  cases vs with
  |nil=>cases fl with
   |nil=>exact⟨e,hp,[],GS.refl h,by simp only[CRs],hm⟩
   |cons _ _=>exact hc.elim
  |cons _ _=>exact hc.elim
 |c::cs,kb,vs,fl,e,hp,K,h,hc,h1,hd,hpw,hS,hm=>by
  cases vs with
  |nil=>exact hc.elim
  |cons v vs=>cases fl with
   |nil=>exact hc.elim
   |cons f fl =>
    simp only[c1z]at hm
    rw[M.wp_bind]at hm
    obtain⟨e1,hp1,d,G1,hcd,_,hm⟩:=a4U (N:=N) h hc.1 (y8.D5 (h1 v (by simp))) (fun k hk b q hb=>hd k (by simp at hk;subst hk;simp) b q hb) (hS c (by simp)) hm
    rw[M.wp_bind]at hm
    obtain⟨e2,hp2,ds,G2,hds,hm⟩:=a8a cs (kb+1) vs fl e1 hp1 _ G1.hr hc.2 (fun u hu=>h1 u (by simp[hu])) (Dis.step (f1 := [f]) (f2:=fl) hd G1 hpw) (List.pairwise_cons.1 hpw).2 (fun c hc hs b hb=>(G1.S b).2 (hS c (by simp[hc]) hs b hb)) hm
    refine⟨e2,hp2,d::ds,G1.trans G2,?_,hm⟩
    have hv1:VR e1 hp1 w v (.one d):=by simp only[VR];exact⟨hcd,y8.D5 (h1 v (by simp))⟩
    have hv2:=G2.vr _ _ hv1
    simp only[VR]at hv2
    simp only[CRs]
    exact⟨hv2.1,hds⟩
theorem a3z (h:HR e hp w) {kb:Nat} {u:V} {v:Value} {fl:List (Option Nat)} (hc:FinV ef w v u fl) (hd:Dis N w ef fl e) (hpw:fl.Pairwise (fun x y => ∀k,x=some k→y≠some k)) (hS:u.a5A=true → ∀b,ef.S b→e.S b) {K:V→Hp→Prop} (hm:(c1y kb u).wp L hp K) :
  ∃e' hp' y,GS N w ef fl e hp e' hp'∧VR e' hp' w v y∧K y hp':=by
 unfold c1y at hm
 split at hm
 ·rename_i c
  obtain⟨f,rfl,h2,h3⟩:=hc
  rw[M.wp_bind]at hm
  obtain⟨e1,hp1,d,G1,hcd,ho,hm⟩:=a4U (N:=N) h h2 h3 hd hS hm
  exact⟨e1,hp1,.one d,G1,by simp only[VR];exact⟨hcd,ho⟩,hm⟩
 ·rename_i cs
  obtain⟨arr,h1,h2,h3⟩:=hc
  rw[M.wp_bind]at hm
  obtain⟨e1,hp1,ds,G1,hds,hm⟩:=a8a (N:=N) cs kb _ _ _ _ _ h h2 h3 hd hpw (fun c hc hs b hb=>hS (by simp only[V.a5A,List.any_eq_true];exact⟨c,hc,hs⟩) b hb) hm
  exact⟨e1,hp1,.agg ds,G1,by simp only[VR];exact⟨arr,h1,hds,h3⟩,hm⟩
 ·exact hm.elim
theorem a7Z : ∀(us:List V) (kb:Nat) (vs:List Value) (fl:List (Option Nat)) (e:Env) (hp:Hp) (K:List V→Hp→Prop),HR e hp w→a3V ef w vs us fl→Dis N w ef fl e→fl.Pairwise (fun x y => ∀k,x=some k→y≠some k) →
  (us.any V.a5A=true → ∀b,ef.S b→e.S b)→(c1x kb us).wp L hp K → ∃e' hp' ys,GS N w ef fl e hp e' hp'∧VRs e' hp' w vs ys∧K ys hp'
 |[],kb,vs,fl,e,hp,K,h,hc,_,_,_,hm=>by
  cases vs with
  |nil =>
   have hf:fl = []:=hc
   subst hf
   exact⟨e,hp,[],GS.refl h,by simp only[VRs],hm⟩
  |cons _ _=>exact hc.elim
 |u::us,kb,vs,fl,e,hp,K,h,hc,hd,hpw,hS,hm=>by
  cases vs with
  |nil=>exact hc.elim
  |cons v vs =>
   obtain⟨f1,f2,rfl,hc1,hc2⟩:=hc
   simp only[c1x]at hm
   rw[M.wp_bind]at hm
   obtain⟨e1,hp1,y,G1,hy,hm⟩:=a3z (N:=N) h hc1 (fun k hk b q hb=>hd k (List.mem_append_left _ hk) b q hb) (List.pairwise_append.1 hpw).1 (fun hs=>hS (by simp[hs])) hm
   rw[M.wp_bind]at hm
   obtain⟨e2,hp2,ys,G2,hys,hm⟩:=a7Z us _ vs f2 e1 hp1 _ G1.hr hc2 (Dis.step hd G1 hpw) (List.pairwise_append.1 hpw).2.1 (fun hs b hb=>(G1.S b).2 (hS (by simp only[List.any_cons,hs,Bool.or_true]) b hb)) hm
   exact⟨e2,hp2,y::ys,G1.trans G2,by simp only[VRs];exact⟨G2.vr _ _ hy,hys⟩,hm⟩
theorem a9T (h:HR e hp w) {kb:Nat} {us:List V} {vs:List Value} {v:Value} (hv:v=if h:vs.toArray.size=1 then vs.toArray[0]else .tuple vs.toArray) {fl:List (Option Nat)} (hc:a3V ef w vs us fl) (hd:Dis N w ef fl e) (hpw:fl.Pairwise (fun x y => ∀k,x=some k→y≠some k))
  (hS:(tupV us).shares=true → ∀b,ef.S b→e.S b) {K:V→Hp→Prop} (hm:(outV kb (tupV us)).wp L hp K) : ∃e' hp' y,GS N w ef fl e hp e' hp'∧VR e' hp' w v y∧K y hp':=by
 have tup:(us.length≠1)→(outV kb (.tup us)).wp L hp K→((V.tup us).shares=true → ∀b,ef.S b→e.S b)→v = .tuple vs.toArray → ∃e' hp' y,GS N w ef fl e hp e' hp'∧VR e' hp' w v y∧K y hp':=fun _ hm hS hv=>by
  simp only[outV]at hm
  rw[M.wp_bind]at hm
  obtain⟨e1,hp1,ys,G1,hys,hm⟩:=a7Z (N:=N) us kb vs fl e hp _ h hc hd hpw hS hm
  refine⟨e1,hp1,.tup ys,G1,?_,hm⟩
  rw[hv]
  simp only[VR]
  exact⟨_,rfl,hys⟩
 cases us with
 |nil=>cases vs with
  |nil=>exact tup (by simp) hm hS (by rw[hv];simp)
  |cons _ _=>exact hc.elim
 |cons u us=>cases vs with
  |nil=>exact hc.elim
  |cons v0 vs=>cases us with
   |nil=>cases vs with
    |nil =>
     obtain⟨f1,f2,rfl,hc1,hc2⟩:=hc
     have hf2:f2 = []:=hc2
     subst hf2
     rw[List.append_nil]at *
     have hv':v=v0:=by rw[hv];simp
     subst hv'
     simp only[tupV]at hm hS
     cases u with
     |tup _=>exact hc1.elim
     |one c=>exact a3z h hc1 hd hpw hS hm
     |agg cs=>exact a3z h hc1 hd hpw hS hm
    |cons _ _=>obtain⟨_,_,_,_,hh⟩:=hc;exact hh.elim
   |cons u2 us=>cases vs with
    |nil=>obtain⟨_,_,_,_,hh⟩:=hc;exact hh.elim
    |cons v2 vs=>exact tup (by simp) hm hS (by rw[hv,dif_neg (by simp)])
end
end Go.Sx
