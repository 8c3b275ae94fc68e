/-
  Operations, one by one: new variables; loads.
-/
import Derived.Test.YtiioognflecdgaaGreatS1
import Derived.ChangeKeysEq
import Derived.Laws.Slices
set_option linter.unusedVariables false
set_option linter.unusedSimpArgs false
namespace Go.Sx
section
variable {P:Program} {ctx:Ctx} {B:Base} {e:Env} {a:Act} {w:World} {σ : St} {o:Oper} {K:V→Hp→Prop} {next:Act→World→Prop} {Q:Exit→Act→World→Prop} {L:Locks}
theorem b2J (k:IntKind):k.min≤0∧0≤k.max:=by cases k<;>simp[IntKind.min,IntKind.max,IntKind.signed,IntKind.bits]
theorem b5m {v:Value} (h:a3d .slice v=true):v = .slice none 0 0:=by
 cases v with
 |slice b l c =>
  cases b with
  |some b=>simp[a3d]at h
  |none =>
   cases l with
   |succ l=>simp[a3d]at h
   |zero =>
    cases c with
    |succ c=>simp[a3d]at h
    |zero=>rfl
 |_=>simp[a3d]at h
theorem a3b {hp:Hp} : ∀(zs:List ZC) (vs:List Value),a4v zs vs=true→CRs e hp w vs (zs.map ZC.c) ∧ ∀u∈vs,one u
 |[],[],_=>⟨by simp only[CRs,List.map],fun u hu=>by cases hu⟩
 |z::zs,v::vs,h=>by
  simp only[a4v,Bool.and_eq_true]at h
  obtain⟨h1,h2⟩:=a3b zs vs h.2
  have hz:CR e hp w v z.c∧one v:=by
   have h0:=h.1
   cases z with
   |int k =>
    cases v<;>simp only[a3d]at h0<;>try cases h0
    simp only[Bool.and_eq_true,beq_iff_eq]at h0
    obtain⟨rfl,rfl⟩:=h0
    simp only[ZC.c,CR]
    exact⟨Rep.int k (fun _=>0) (b2J k).1 (b2J k).2,rfl⟩
   |bool =>
    cases v<;>simp only[a3d]at h0<;>try cases h0
    rename_i b
    obtain rfl:b=false:=by simpa using h0
    simp only[ZC.c,CR]
    exact⟨Rep.bool .ff,rfl⟩
   |slice =>
    obtain rfl:=b5m h0
    simp only[ZC.c,CR]
    exact⟨trivial,rfl⟩
   |other =>
    simp only[ZC.c,CR]
    refine⟨trivial,?_⟩
    unfold one
    simpa [a3d]using h0
  simp only[List.map,CRs]
  exact⟨⟨hz.1,h1⟩,fun u hu=>by
   cases hu with
   |head=>exact hz.2
   |tail _ hu=>exact h2 u hu⟩
 |[],_::_,h=>by simp[a4v]at h
 |_::_,[],h=>by simp[a4v]at h
theorem b1I {hp:Hp} {key:Nat} {cs:List C} (hm:(newVar key cs).wp L hp K) :
  keeps (hp.get key) ((hp.get key).1+1,.var false cs)=true∧K (.one (.ptr key ((hp.get key).1+1) 0)) (hp.set key ((hp.get key).1+1,.var false cs)):=by
 unfold newVar at hm
 have h1:=M.u4 hm
 have h2:=M.D3 h1
 exact h2
theorem b3n {hp:Hp} (key ver:Nat) (cs:List C) (x:Obj):VR (e.new key w.heap.size (.pointer (some ⟨w.heap.size,0,none⟩))) (hp.set key (ver,.var false cs)) (w.alloc x) (.pointer (some ⟨w.heap.size,0,none⟩)) (.one (.ptr key ver 0)):=by
 simp only[VR,CR,Tr.e8,Env.new]
 refine⟨⟨Nat.le_refl _,fun _=>⟨w.heap.size,0,by simp,rfl⟩⟩,y8.D5 rfl⟩
theorem c6L (h:Rel B e w a.tmps σ) (hd : ∀d,o.dst=some d→d<a.tmps.size) (hn:Nx B a σ o K next) (hty:TyOk P ctx.ty) {T:TypeId} (ho:o.op = .alloc T)
  (hm:(opM ctx σ.tm o).wp L σ.hp K):o.wp P a w next Q:=by
 simp only[opM,ho]at hm
 obtain⟨hb,hm⟩:=M.p4 hm
 have hT:ctx.ty.get T≠default:=fun hx=>by rw[hx]at hb;cases hb
 obtain⟨inf,z,d,F⟩:=N6 ((hty T).resolve_left hT)
 obtain⟨hk,hK⟩:=b1I hm
 obtain⟨h1,h2⟩:=a3b (e:=e) (w:=w) (hp := σ.hp) _ _ F.zeroOk
 refine c0B h hd hn ?_ (b5A h.hr _ _ _ z.cells T (Nat.lt_succ_self _) hk h1 h2) (b3n _ _ _ _) hK
 simp[execOp,ho,Instr.alloc,zeroValue,typeInfo,F.info,F.zero,Go.newVar,Go.newRow]
theorem b1q {hp:Hp} {v:Value} {x:V} (h:VR e hp w v x) (hx : ∀vs,x ≠ .tup vs) (hu : ∀c∈x.cells,c ≠ .unk):CRs e hp w v.cells.toList x.cells ∧ ∀u∈v.cells.toList,one u:=by
 cases x with
 |one c =>
  simp only[VR]at h
  have h1:one v:=by
   have:=h.2
   unfold y8 at this
   split at this
   ·exact(hu _ (by simp[V.cells]) rfl).elim
   ·exact this
  have h2:v.cells = #[v]:=by
   unfold one at h1
   cases v<;>simp[Value.oneCell']at h1<;>rfl
  rw[h2]
  exact⟨by simp only[V.cells,CRs];exact⟨h.1,trivial⟩,fun u hu=>by simp at hu;rw[hu];exact h1⟩
 |agg cs =>
  simp only[VR]at h
  obtain⟨arr,rfl,h2,h3⟩:=h
  exact⟨h2,h3⟩
 |tup vs=>exact(hx vs rfl).elim
theorem V.a5d {x:V} (h:x.known=true):(∀vs,x ≠ .tup vs) ∧ ∀c∈x.cells,c ≠ .unk:=by
 cases x with
 |tup vs=>cases h
 |one c =>
  refine⟨fun _=>by simp,fun d hd e => ?_⟩
  simp only[V.cells,List.mem_singleton]at hd
  subst hd;subst e
  cases h
 |agg cs =>
  refine⟨fun _=>by simp,fun d hd => ?_⟩
  have:=List.all_eq_true.1 h d hd
  intro e
  rw[e]at this
  cases this
theorem d2A (h:Rel B e w a.tmps σ) (hd : ∀d,o.dst=some d→d<a.tmps.size) (hn:Nx B a σ o K next) {T:TypeId} {x:Operand} (ho:o.op = .box T x)
  (hm:(opM ctx σ.tm o).wp L σ.hp K):o.wp P a w next Q:=by
 simp only[opM,ho]at hm
 obtain⟨hkn,hm⟩:=M.p4 hm
 obtain⟨hk,hK⟩:=b1I hm
 obtain⟨k1,k2⟩:=V.a5d hkn
 obtain⟨h1,h2⟩:=b1q (p6 h x) k1 k2
 refine c0B h hd hn ?_ (b5A h.hr _ _ _ (a.eval x).cells T (Nat.lt_succ_self _) hk h1 h2) (b3n _ _ _ _) hK
 simp[execOp,ho,Instr.box,Go.newVar,Go.newRow]
theorem a1g {T b off:Nat} {i:TyI} (ht:a3h P T i=true) {us:List Value} (hl:us.length=i.cells) (hc : ∀j u,us[j]? = some u→w.cell? ⟨b,off+j,none⟩=some u) {cs:List C} {hp hp':Hp}
  (hus:CRs e hp w us cs) (h1 : ∀u∈us,one u) {K:V→Hp→Prop} (hm:(mkV i.d cs).wp L hp' K) : ∃v x,(loadVar T ⟨b,off,none⟩).run P w = .ok v w∧VR e hp w v x∧K x hp':=by
 obtain⟨inf,z,d,F⟩:=N6 ht
 have hagg:(isAgg T).run P w = .ok (aggD d) w:=by
  unfold isAgg
  simp only[Sem.run_bind,run_underlying F.und,Result.andThen_ok]
  cases d<;>rfl
 rw[b1d F.desc]at hagg
 have hsz:(sizeOf T).run P w = .ok us.length w:=by simp[sizeOf,typeInfo,F.info,F.size,hl]
 unfold mkV at hm
 cases hs:W0 i.d with
 |true =>
  rw[hs]at hm hagg
  simp only[if_true,M.wp]at hm
  refine⟨.agg us.toArray,.agg cs,?_,?_,hm⟩
  ·have hr:=run_loadCells_list (P:=P) w ⟨b,off,none⟩ us (fun j u hu=>by rw[v7];exact hc j u hu)
   simp[loadVar,hagg,hsz,hr]
  ·simp only[VR]
   exact⟨us.toArray,rfl,by simpa using hus,by simpa using h1⟩
 |false =>
  rw[hs]at hm hagg
  simp only[Bool.false_eq_true,if_false]at hm
  split at hm
  ·rename_i c
   have hlen:=hus.length
   cases us with
   |nil=>simp at hlen
   |cons u r =>
    cases r with
    |cons _ _=>simp at hlen
    |nil =>
     simp only[CRs]at hus
     have h0:=hc 0 u rfl
     simp only[Nat.add_zero]at h0
     refine⟨u,.one c,?_,?_,hm⟩
     ·simp[loadVar,hagg,h0]
     ·simp only[VR]
      exact⟨hus.1,y8.D5 (h1 u (by simp))⟩
  ·exact hm.elim
end
end Go.Sx
namespace Go.Sx
section
variable {e:Env} {hp:Hp} {w:World} {L:Locks}
theorem o9 {b:Nat} {cs:Array Value} {T:Nat} {fz:Nat×Nat} (hh:w.heap[b]? = some (.cells cs T fz)) (o:Nat):w.cell? ⟨b,o,none⟩=cs[o]? := by
 simp[World.cell?,hh]
theorem a0e {t:RT} {l:Th (List t.ty)} {i:Th Int} {j:Nat} {a:A} (h:a0p t l i j=some a):j<t.size:=by
 have h1:=(List.getElem?_eq_some_iff.1 h).1
 rwa [D8]at h1
theorem a1k {om:Nat→Option (Nat×Path)} {k:Nat} : ∀(pre:List (Th Int×Nat)) (p:Path) (t:RT) (l:Th (List t.ty)) (v hdr:Value) (t2:RT) (l2:Th (List t2.ty)),
  OwnA om k w p v (.list t l)→subA t l pre=some (.list t2 l2)→C2 om k w t l v pre hdr→OwnA om k w (p++E8 pre) hdr (.list t2 l2)
 |[],p,t,l,v,hdr,t2,l2,ho,hs,hm=>by
  simp only[subA,Option.some.injEq]at hs
  simp only[C2]at hm
  subst hm
  rw[←hs]
  simpa [E8]using ho
 |(i,j)::r,p,t,l,v,hdr,t2,l2,ho,hs,hm=>by
  obtain⟨b,cap,q,h1,h2,h3,h4,u,t3,l3,h5,h6,h7⟩:=hm
  simp only[subA,h6]at hs
  rcases ho.list with ⟨hv,_⟩|⟨b',cap',cs,T,vs,as,hr,hb,hc⟩
  ·rw[hv]at h1;cases h1
  ·have hv:=hr.hv
   rw[h1]at hv
   simp only[Value.slice.injEq,Option.some.injEq,Addr.mk.injEq]at hv
   obtain⟨⟨rfl,_⟩,_,_⟩:=hv
   have hj:=a0e h6
   obtain⟨g1,g2⟩:=hr.hg _ _ h4 hj
   rw[o9 hr.hh,g2]at h5
   cases h5
   rw[J6,g1]at h6
   have h6':=Option.some.inj h6
   have hcc:=hc _ _ h4 hj
   rw[h6']at hcc
   have:=a1k r (p ++ [((i ()).toNat,j)]) t3 l3 _ hdr t2 l2 hcc hs h7
   simpa [E8]using this
theorem a8h {om:Nat→Option (Nat×Path)} {k:Nat} {b cap:Nat} {q:Path} {i:Th Int} {j:Nat} {u:Value} {t3:RT} {l3:Th (List t3.ty)} : ∀(pre:List (Th Int×Nat)) (t:RT) (l:Th (List t.ty)) (v:Value) (t2:RT) (l2:Th (List t2.ty)),
  C2 om k w t l v pre (.slice (some ⟨b,0,none⟩) (l2 ()).length cap)→subA t l pre=some (.list t2 l2)→om b=some (k,q)→0≤i ()→(i ()).toNat<(l2 ()).length →
  w.cell? ⟨b,(i ()).toNat * t2.size+j,none⟩=some u→a0p t2 l2 i j=some (.list t3 l3)→C2 om k w t l v (pre ++ [(i,j)]) u
 |[],t,l,v,t2,l2,hm,hs,hb,h0,hi,hc,ha=>by
  simp only[subA,Option.some.injEq,A.list.injEq]at hs
  obtain⟨rfl,hs⟩:=hs
  cases hs
  simp only[C2]at hm
  exact⟨b,cap,q,hm.symm,hb,h0,hi,u,t3,l3,hc,ha,rfl⟩
 |(i',j')::r,t,l,v,t2,l2,hm,hs,hb,h0,hi,hc,ha=>by
  obtain⟨b',cap',q',h1,h2,h3,h4,u',t4,l4,h5,h6,h7⟩:=hm
  simp only[subA,h6]at hs
  exact⟨b',cap',q',h1,h2,h3,h4,u',t4,l4,h5,h6,a8h r t4 l4 u' t2 l2 h7 hs hb h0 hi hc ha⟩
theorem b2H (dp:Bool) (k v g:Nat) (pre:List (Th Int×Nat)) (i:Th Int) : ∀(as:List A) (j0 m:Nat),
  (a6t dp k v g pre i j0 as)[m]? = (as[m]?).map fun a=>match a with
   | .list t l=>if dp then C.pref k v g pre i (j0+m)else C.att (.list t l)
   |a=>C.att a
 |[],_,m=>by simp[a6t]
 |a::r,j0,0=>by cases a<;>simp[a6t]
 |a::r,j0,m+1=>by
  have ih:=b2H dp k v g pre i r (j0+1) m
  have:j0+1+m=j0+(m+1):=by omega
  cases a<;>simp only[a6t,List.getElem?_cons_succ,ih,this]
theorem a6s (dp:Bool) (k v g:Nat) (pre:List (Th Int×Nat)) (i:Th Int) : ∀(as:List A) (j0:Nat),(a6t dp k v g pre i j0 as).length=as.length
 |[],_=>rfl
 |a::r,j0=>by cases a<;>simp[a6t,a6s dp k v g pre i r]
def Found (e:Env) (hp:Hp) (w:World) (v:Value) (n:Nat) (cs:List C):Prop :=
 ∃b off us,v = .pointer (some ⟨b,off,none⟩)∧us.length=n∧(∀(j:Nat) (u:Value),us[j]? = some u→w.cell? ⟨b,off+j,none⟩=some u)∧CRs e hp w us cs ∧ ∀u∈us,one u
theorem b0O {b off n:Nat} {cs:List C} (f:Nat→Value) (hl:cs.length=n) (h : ∀(j:Nat) (c:C),cs[j]? = some c→w.cell? ⟨b,off+j,none⟩=some (f j)∧CR e hp w (f j) c∧one (f j)) :
  Found e hp w (.pointer (some ⟨b,off,none⟩)) n cs:=by
 have key : ∀(j:Nat) (u:Value),((List.range n).map f)[j]? = some u→j<n∧u=f j:=by
  intro j u hu
  rw[List.getElem?_map]at hu
  by_cases hj:j<n
  ·rw[List.getElem?_range hj]at hu
   exact⟨hj,(Option.some.inj hu).symm⟩
  ·rw[List.getElem?_eq_none (by simpa using hj)]at hu
   cases hu
 refine⟨b,off,(List.range n).map f,rfl,by simp,fun j u hu => ?_,CRs.a2F (by simp[hl]) fun j u c hu hc => ?_,fun u hu => ?_⟩
 ·obtain⟨hj,rfl⟩:=key j u hu
  exact(h j _ (List.getElem?_eq_getElem (by omega))).1
 ·obtain⟨hj,rfl⟩:=key j u hu
  exact(h j c hc).2.1
 ·obtain⟨j,hj⟩:=List.getElem?_of_mem hu
  obtain⟨hj',rfl⟩:=key j u hj
  exact(h j _ (List.getElem?_eq_getElem (by omega))).2.2
theorem a1G {α : Type} (l:List α) (j n m:Nat):((l.drop j).take n)[m]? = if m<n then l[j+m]? else none:=by
 rw[List.getElem?_take,List.getElem?_drop]
theorem a8j (h:HR e hp w) {p:C} {v:Value} (hc:CR e hp w v p) {n:Nat} {K:List C→Hp→Prop} (hm:(c1Q p n).wp L hp K) : ∃cs,Found e hp w v n cs∧K cs hp:=by
 unfold c1Q at hm
 cases p with
 |ptr k ver j =>
  have hm:=M.u4 hm
  simp only[CR]at hc
  cases hx:hp.get k with
  |mk v' ch =>
   rw[hx]at hm hc
   cases ch with
   |var bx cs =>
    obtain⟨hb,hm⟩:=M.p4 hm
    simp only[Bool.and_eq_true,beq_iff_eq,decide_eq_true_eq]at hb
    have hch:=h.chs k
    rw[hx]at hch
    obtain⟨b,off,arr,T,h1,h2,h3,h4,h5⟩:=hch
    obtain⟨b',off',g1,g2⟩:=hc.2 hb.1.symm
    rw[h1]at g1
    cases g1
    refine⟨_,?_,hm⟩
    rw[g2]
    refine b0O (fun m=>(arr[off+j+m]?).getD .nilFunc) (by simp;omega) fun m c hmc => ?_
    rw[a1G]at hmc
    split at hmc
    ·obtain⟨u,a1,a2,a3⟩:=h5 (j+m) c hmc
     rw[←Nat.add_assoc]at a1
     rw[o9 h3,a1]
     exact⟨rfl,a2,a3⟩
    ·cases hmc
   |_=>exact hm.elim
 |pp k ver g pre i j =>
  have hm:=M.u4 hm
  simp only[CR]at hc
  cases hx:hp.get k with
  |mk v' ch =>
   rw[hx]at hm hc
   cases ch with
   |row dp g' t l =>
    obtain⟨hb,hm⟩:=M.p4 hm
    simp only[Bool.and_eq_true,beq_iff_eq,Bool.or_eq_true,List.isEmpty_iff]at hb
    obtain⟨hv,hb2⟩:=hb
    have hch:=h.chs k
    rw[hx]at hch
    split at hm
    ·rename_i t2 l2 hsub
     obtain⟨hn,hm⟩:=M.p4 hm
     simp only[decide_eq_true_eq]at hn
     refine⟨_,?_,hm⟩
     have met : ∃(b cap:Nat) (cs:Array Value) (T:Nat) (vs:Nat→Nat→Value) (as:Nat→Nat→A) (hdr:Value) (q:Path),RowM w t2 (l2 ()) hdr b cap cs T vs as∧e.om b=some (k,q)∧0≤i ()∧(i ()).toNat<(l2 ()).length ∧
       v = .pointer (some ⟨b,(i ()).toNat * t2.size+j,none⟩) ∧
       (∀j':Nat,j'<t2.size → ∀c,(match as (i ()).toNat j' with | .list t3 l3=>(if dp then C.pref k ver g' pre i j' else C.att (.list t3 l3))|a=>C.att a)=c→CR e hp w (vs (i ()).toNat j') c∧one (vs (i ()).toNat j')):=by
      cases dp with
      |false =>
       obtain rfl:pre = []:=by
        rcases hb2 with hb2|⟨_,hb2⟩
        ·exact hb2
        ·cases hb2
       simp only[subA,Option.some.injEq,A.list.injEq]at hsub
       obtain⟨rfl,hsub⟩:=hsub
       cases hsub
       obtain⟨b,len,cap,h1,h2,h3,h4⟩:=hc.2 hv.symm
       rcases hch with ⟨hE,_⟩|⟨b',cap',cs,T,vs,as,hr,ho,hrep⟩
       ·rw[hE]at h1;cases h1
       ·have hv':=hr.hv
        rw[h1]at hv'
        simp only[Value.slice.injEq,Option.some.injEq,Addr.mk.injEq]at hv'
        obtain⟨⟨rfl,_⟩,rfl,rfl⟩:=hv'
        refine⟨_,_,cs,T,vs,as,_,_,hr,ho,h2,h3,h4 _ rfl,fun j' hj' c hcc => ?_⟩
        have hre:=hrep _ _ h3 hj'
        subst hcc
        refine⟨?_,hre.one⟩
        generalize as (i ()).toNat j'=aa at hre
        cases aa<;>(simp only[CR];exact hre)
      |true =>
       have own : ∃(b cap:Nat) (cs:Array Value) (T:Nat) (vs:Nat→Nat→Value) (as:Nat→Nat→A) (hdr:Value) (q:Path),RowM w t2 (l2 ()) hdr b cap cs T vs as∧e.om b=some (k,q)∧0≤i ()∧(i ()).toNat<(l2 ()).length ∧
         v = .pointer (some ⟨b,(i ()).toNat * t2.size+j,none⟩)∧C2 e.om k w t l (e.E k) pre hdr∧hdr = .slice (some ⟨b,0,none⟩) (l2 ()).length cap ∧
         ∀j',j'<t2.size→OwnA e.om k w (q ++ [((i ()).toNat,j')]) (vs (i ()).toNat j') (as (i ()).toNat j'):=by
        cases pre with
        |nil =>
         simp only[subA,Option.some.injEq,A.list.injEq]at hsub
         obtain⟨rfl,hsub⟩:=hsub
         cases hsub
         obtain⟨b,len,cap,h1,h2,h3,h4⟩:=hc.2 hv.symm
         rcases OwnA.list hch with ⟨hE,_⟩|⟨b',cap',cs,T,vs,as,hr,ho,hrep⟩
         ·rw[hE]at h1;cases h1
         ·have hv':=hr.hv
          rw[h1]at hv'
          simp only[Value.slice.injEq,Option.some.injEq,Addr.mk.injEq]at hv'
          obtain⟨⟨rfl,_⟩,rfl,rfl⟩:=hv'
          exact⟨_,_,cs,T,vs,as,_,_,hr,ho,h2,h3,h4 _ rfl,rfl,hr.hv,fun j' hj'=>hrep _ _ h3 hj'⟩
        |cons x r =>
         have hg:g=g':=by
          rcases hb2 with hb2|⟨hg,_⟩
          ·cases hb2
          ·exact hg
         subst hg
         obtain⟨t2',l2',b,cap,a1,a2,a3,a4,a5⟩:=(hc.2 hv.symm).2 t l rfl
         rw[hsub]at a1
         simp only[Option.some.injEq,A.list.injEq]at a1
         obtain⟨rfl,a1⟩:=a1
         cases a1
         have hown:=a1k _ _ _ _ _ _ _ _ hch hsub a2
         rcases hown.list with ⟨hE,_⟩|⟨b',cap',cs,T,vs,as,hr,ho,hrep⟩
         ·cases hE
         ·have hv':=hr.hv
          simp only[Value.slice.injEq,Option.some.injEq,Addr.mk.injEq]at hv'
          obtain⟨⟨rfl,_⟩,_,rfl⟩:=hv'
          exact⟨_,_,cs,T,vs,as,_,_,hr,ho,a3,a4,a5,a2,rfl,fun j' hj'=>hrep _ _ a4 hj'⟩
       obtain⟨b,cap,cs,T,vs,as,hdr,q,hr,ho,h2,h3,h4,hmh,hhd,hown⟩:=own
       refine⟨b,cap,cs,T,vs,as,hdr,q,hr,ho,h2,h3,h4,fun j' hj' c hcc => ?_⟩
       have hre:=hown j' hj'
       obtain⟨g1,g2⟩:=hr.hg _ _ h3 hj'
       subst hcc
       refine⟨?_,hre.one⟩
       cases haa:as (i ()).toNat j' with
       |int kd nn =>
        rw[haa]at hre
        generalize vs (i ()).toNat j'=vv at hre
        simp only[CR]
        cases hre with
        |int _ _ _ b1 b2=>exact Rep.int _ _ b1 b2
       |bool bb =>
        rw[haa]at hre
        generalize vs (i ()).toNat j'=vv at hre
        simp only[CR]
        cases hre
        exact Rep.bool _
       |list t3 l3 =>
        simp only[if_true,CR]
        rw[hx]
        simp only
        rw[haa]at g1
        refine⟨Nat.le_of_eq hv,fun _=>⟨Nat.le_refl _,fun t' l' hr' => ?_⟩⟩
        simp only[Ch.row.injEq,true_and]at hr'
        obtain⟨rfl,hr'⟩:=hr'
        cases hr'
        rw[hhd]at hmh
        exact a8h pre _ _ _ t2 l2 hmh hsub ho h2 h3 (by rw[o9 hr.hh];exact g2) (by rw[J6];exact g1)
     obtain⟨b,cap,cs,T,vs,as,hdr,q,hr,ho,h2,h3,h4,hcells⟩:=met
     rw[h4]
     refine b0O (fun m=>vs (i ()).toNat (j+m)) (by simp[a6s,D8];omega) fun m c hmc => ?_
     rw[a1G]at hmc
     split at hmc
     ·rename_i hmn
      have hj':j+m<t2.size:=by omega
      obtain⟨g1,g2⟩:=hr.hg _ _ h3 hj'
      rw[b2H]at hmc
      have g1':(enc t2 fun _=>nth t2 (l2 ()) (i ()).toNat)[j+m]? = some (as (i ()).toNat (j+m)):=g1
      rw[g1']at hmc
      simp only[Option.map_some,Option.some.injEq,Nat.zero_add]at hmc
      obtain⟨k1,k2⟩:=hcells (j+m) hj' c (by
       subst hv
       exact hmc)
      exact⟨by rw[o9 hr.hh,Nat.add_assoc];exact g2,k1,k2⟩
     ·cases hmc
    ·exact hm.elim
   |_=>exact hm.elim
 |rptr t l i j =>
  obtain⟨hb,hm⟩:=M.p4 hm
  simp only[decide_eq_true_eq]at hb
  refine⟨_,?_,hm⟩
  simp only[CR]at hc
  obtain⟨b,off,cap,h1,h2,h3,h4⟩:=hc
  rw[h4]
  rcases h1.list with ⟨h0,_⟩|⟨b',off',cap',cs,T,fz,vs,as,a0,a1,a2,a3,a4,a5,a6⟩|⟨h0,_⟩
  ·cases h0
  rotate_left
  ·rw[h0]at h3;simp at h3
  ·simp only[Value.slice.injEq,Option.some.injEq,Addr.mk.injEq]at a0
   obtain⟨⟨rfl,rfl,_⟩,_,rfl⟩:=a0
   refine b0O (fun m=>vs (i ()).toNat (j+m)) (by simp[D8];omega) fun m c hmc => ?_
   rw[a1G]at hmc
   split at hmc
   ·have hj':j+m<t.size:=by omega
    obtain⟨g1,g2⟩:=a5 _ _ h3 hj'
    have g1':(enc t fun _=>nth t (l ()) (i ()).toNat)[j+m]? = some (as (i ()).toNat (j+m)):=g1
    rw[List.getElem?_map,g1']at hmc
    simp only[Option.map_some,Option.some.injEq]at hmc
    subst hmc
    have hre:=a6 _ _ h3 hj'
    exact⟨by rw[o9 a2,Nat.add_assoc];exact g2,by simp only[CR];exact hre,hre.one⟩
   ·cases hmc
 |_=>exact hm.elim
end
section
variable {P:Program} {ctx:Ctx} {B:Base} {e:Env} {a:Act} {w:World} {σ : St} {o:Oper} {K:V→Hp→Prop} {next:Act→World→Prop} {Q:Exit→Act→World→Prop} {L:Locks}
theorem c1P {hp':Hp} {cs:List C} (hm:(mkV .other cs).wp L hp' K) : ∃c,cs = [c]:=by
 unfold mkV at hm
 simp only[W0,Bool.false_eq_true,if_false]at hm
 split at hm
 ·exact⟨_,rfl⟩
 ·exact hm.elim
theorem d0d (h:Rel B e w a.tmps σ) (hd : ∀d,o.dst=some d→d<a.tmps.size) (hn:Nx B a σ o K next) (hty:TyOk P ctx.ty) {T:TypeId} {x:Operand} (ho:o.op = .load T x) (hm:(opM ctx σ.tm o).wp L σ.hp K):o.wp P a w next Q:=by
 have hx:=p6 h x
 simp only[opM,ho]at hm
 split at hm
 ·rename_i p hp
  rw[hp]at hx
  simp only[VR]at hx
  rw[M.wp_bind]at hm
  obtain⟨cs,hf,hm⟩:=a8j h.hr hx.1 hm
  obtain⟨b,off,us,h1,h2,h3,h4,h5⟩:=hf
  have hT:a3h P T (ctx.ty.get T)=true:=by
   rcases hty T with h0|h0
   ·exfalso
    rw[h0]at h2 hm
    have hl:=h4.length
    obtain⟨c,rfl⟩:=c1P (K:=K) hm
    simp at hl
    rw[h2]at hl
    cases hl
   ·exact h0
  obtain⟨v,z,g1,g2,g3⟩:=a1g (w:=w) hT h2 h3 h4 h5 hm
  refine G6 h hd hn (v:=v) ?_ g2 g3
  simp[execOp,ho,Instr.loadAt,Instr.sureAddr,h1,g1]
 ·exact hm.elim
end
end Go.Sx
namespace Go.Sx
section
variable {e e':Env} {hp hp':Hp} {w w':World} {L:Locks}
theorem b4x (t:RT) (l:List t.ty) (i:Nat) (x:t.ty) (h:i<l.length):nth t (l.set i x) i=x:=by
 simp[nth,List.getD,h]
theorem q9 (t:RT) (l:List t.ty) (i i':Nat) (x:t.ty) (h:i'≠i):nth t (l.set i x) i'=nth t l i':=by
 simp[nth,List.getD,Ne.symm h]
theorem a6J {t:RT} {l:Th (List t.ty)} {i:Th Int} {e':Th t.ty} {as:List A} (hi:(i ()).toNat<(l ()).length) (hs:Same as (enc t e')) :
  (∀i' j,i'≠(i ()).toNat→celA t (B5 t l i e' ()) i' j=celA t (l ()) i' j) ∧
  (∀(j:Nat) (a:A),celA t (B5 t l i e' ()) (i ()).toNat j=some a → ∃b,as[j]? = some b∧A.same b a):=by
 refine⟨fun i' j hne => ?_,fun j a ha => ?_⟩
 ·unfold celA B5
  rw[q9 _ _ _ _ _ hne]
 ·unfold celA B5 at ha
  rw[b4x _ _ _ _ hi]at ha
  have h0:(enc t fun _=>e' ())=enc t e':=rfl
  rw[h0]at ha
  obtain⟨b,h1,h2⟩:=hs.symm.get j ha
  exact⟨b,h1,h2.symm⟩
theorem o8 {α : Type} (l:List α) (j:Nat) (m:List α) (h:j+m.length≤l.length):(putAt l j m).length=l.length:=by
 simp[putAt];omega
theorem K9 {α : Type} (l:List α) (j:Nat) (m:List α) (h:j+m.length≤l.length) (n:Nat) (hn:n<m.length):(putAt l j m)[j+n]? = m[n]? := by
 unfold putAt
 rw[List.append_assoc,List.getElem?_append_right (by simp;omega)]
 simp only[List.length_take]
 rw[List.getElem?_append_left (by omega)]
 congr 1
 omega
theorem A5 {α : Type} (l:List α) (j:Nat) (m:List α) (h:j+m.length≤l.length) (n:Nat) (hn:n<j∨j+m.length≤n):(putAt l j m)[n]? = l[n]? := by
 unfold putAt
 rw[List.append_assoc]
 rcases hn with hn|hn
 ·rw[List.getElem?_append_left (by simp;omega),List.getElem?_take]
  simp[hn]
 ·rw[List.getElem?_append_right (by simp;omega),List.getElem?_append_right (by simp;omega),List.getElem?_drop]
  simp only[List.length_take]
  congr 1
  omega
theorem b2r {t:RT} {l:List t.ty} {v:Value} {b cap:Nat} {cs:Array Value} {T:Nat} {vs:Nat→Nat→Value} {as:Nat→Nat→A} (h:RowM w t l v b cap cs T vs as) {i j:Nat} {us:List Value}
  (hi:i<l.length) (hj:j+us.length≤t.size) {w':World} {arr:Array Value} (ha:arr.toList=putAt cs.toList (i * t.size+j) us) (hw:w'.heap[b]? = some (.cells arr T (0,0))) {l':List t.ty} (hl:l'.length=l.length)
  {as':Nat→Nat→A} (has : ∀i' j',i'<l.length→j'<t.size→celA t l' i' j'=some (as' i' j')) :
  RowM w' t l' v b cap arr T (fun i' j'=>if i'=i∧j≤j'∧j'<j+us.length then us.getD (j'-j) .nilFunc else vs i' j') as':=by
 have hcs:i * t.size+j+us.length≤cs.toList.length:=by
  have h1:=h.hs
  have h2:=h.hc
  have:(i+1) * t.size≤cap * t.size:=Nat.mul_le_mul_right _ (by omega)
  rw[Nat.add_mul]at this
  simp only[Array.length_toList]
  omega
 refine⟨by rw[hl];exact h.hv,hw,by rw[hl];exact h.hc,h.hm,?_,by rw[hl];exact h.hl,fun i' j' hi' hj'=>⟨has i' j' (by rw[←hl];exact hi') hj',?_⟩⟩
 ·have:=congrArg List.length ha
  rw[o8 _ _ _ hcs]at this
  simp only[Array.length_toList]at this
  rw[this];exact h.hs
 ·rw[hl]at hi'
  have h0:=(h.hg i' j' hi' hj').2
  have harr:arr[i' * t.size+j']? = arr.toList[i' * t.size+j']? := by simp
  have hcs0:cs[i' * t.size+j']? = cs.toList[i' * t.size+j']? := by simp
  rw[harr,ha]
  split
  ·rename_i hc
   obtain⟨rfl,h1,h2⟩:=hc
   have e1:i' * t.size+j'=i' * t.size+j+(j'-j):=by omega
   rw[e1,K9 _ _ _ hcs _ (by omega)]
   simp[List.getD,show j'-j<us.length by omega]
  ·rename_i hc
   rw[A5 _ _ _ hcs,←hcs0]
   ·exact h0
   ·by_cases he:i'=i
    ·subst he
     have : ¬(j≤j'∧j'<j+us.length):=fun hh=>hc ⟨rfl,hh⟩
     omega
    ·rcases Nat.lt_or_gt_of_ne he with hlt|hgt
     ·left
      have:(i'+1) * t.size≤i * t.size:=Nat.mul_le_mul_right _ (by omega)
      rw[Nat.add_mul]at this
      omega
     ·right
      have:(i+1) * t.size≤i' * t.size:=Nat.mul_le_mul_right _ (by omega)
      rw[Nat.add_mul]at this
      omega
theorem F3 {t:RT} {l:Th (List t.ty)} {i:Th Int} {e':Th t.ty}:(B5 t l i e' ()).length=(l ()).length:=by
 simp[B5]
def asOf (t:RT) (l:List t.ty) (i j:Nat):A:=((enc t fun _=>nth t l i)[j]?).getD (.bool .ff)
theorem E7 {t:RT} {l:List t.ty} {i j:Nat} (h:j<t.size):celA t l i j=some (asOf t l i j):=by
 obtain⟨a,ha⟩:=b3g t l i j h
 unfold asOf
 unfold celA at ha ⊢
 rw[ha]
 rfl
theorem c1w {om om':Nat→Option (Nat×Path)} {k:Nat} {p:Path} {v:Value} {t:RT} {l l':Th (List t.ty)} {i:Th Int} {j:Nat} {as:List A} {us:List Value} {b cap:Nat} {cs arr:Array Value} {T:Nat} {vs:Nat→Nat→Value} {as0:Nat→Nat→A}
  (hr:RowM w t (l ()) v b cap cs T vs as0) (ho : ∀i' j',i'<(l ()).length→j'<t.size→(i'≠(i ()).toNat∨j'<j∨j+us.length≤j')→OwnA om k w (p ++ [(i',j')]) (vs i' j') (as0 i' j')) (hi:(i ()).toNat<(l ()).length)
  (hput:G4 i j as t l=some l') (hlen:us.length=as.length) (ha:arr.toList=putAt cs.toList ((i ()).toNat * t.size+j) us) (hw:w'.heap[b]? = some (.cells arr T (0,0))) (hb:om' b=some (k,p))
  (hnew : ∀m u a,us[m]? = some u→as[m]? = some a→OwnA om' k w' (p ++ [((i ()).toNat,j+m)]) u a)
  (hold : ∀b' i' j' q,om b'=some (k,p++(i',j')::q)→(i'≠(i ()).toNat∨j'<j∨j+us.length≤j')→om' b'=some (k,p++(i',j')::q)∧w'.heap[b']? = w.heap[b']?):OwnA om' k w' p v (.list t l'):=by
 unfold G4 at hput
 split at hput
 ·rename_i hjs
  split at hput
  ·rename_i e' he'
   cases hput
   have hsame:=X1 _ _ _ he'
   obtain⟨c1,c2⟩:=a6J hi hsame
   have hlen0:(enc t fun _=>nth t (l ()) (i ()).toNat).length=t.size:=D8 _ _
   have hrow:=b2r (l':=B5 t l i e' ()) hr (i:=(i ()).toNat) (j:=j) (us:=us) hi (by omega) ha hw F3 (as':=asOf t (B5 t l i e' ())) (fun i' j' _ hj'=>E7 hj')
   refine hrow.own hb fun i' j' hi' hj' => ?_
   rw[F3]at hi'
   have hcell:=E7 (l:=B5 t l i e' ()) (i:=i') hj'
   split
   ·rename_i hc
    obtain⟨rfl,h1,h2⟩:=hc
    obtain⟨a1,g1,g2⟩:=c2 j' _ hcell
    have e1:j'=j+(j'-j):=by omega
    rw[e1,K9 _ _ _ (by omega) _ (by omega)]at g1
    have hu:us[j'-j]? = some (us.getD (j'-j) .nilFunc):=by simp[List.getD,show j'-j<us.length by omega]
    have:=(hnew (j'-j) _ _ hu g1).same g2
    rw[←e1]at this
    exact this
   ·rename_i hc
    by_cases he:i'=(i ()).toNat
    ·subst he
     have hout:j'<j∨j+us.length≤j':=by
      have : ¬(j≤j'∧j'<j+us.length):=fun hh=>hc ⟨rfl,hh⟩
      omega
     obtain⟨a1,g1,g2⟩:=c2 j' _ hcell
     rw[A5 _ _ _ (by omega) _ (by omega)]at g1
     have g3:celA t (l ()) (i ()).toNat j'=some a1:=g1
     rw[(hr.hg _ _ hi' hj').1]at g3
     cases g3
     exact((ho _ _ hi' hj' (.inr hout)).mono _ fun b' r hbr=>hold b' _ _ r (by simpa using hbr) (.inr hout) |>.imp (fun h=>by simpa using h) id).same g2
    ·have g3:=c1 i' j' he
     rw[hcell,(hr.hg _ _ hi' hj').1]at g3
     rw[Option.some.inj g3]
     exact(ho _ _ hi' hj' (.inl he)).mono _ fun b' r hbr=>hold b' _ _ r (by simpa using hbr) (.inl he) |>.imp (fun h=>by simpa using h) id
  ·cases hput
 ·cases hput
theorem b2x {om om':Nat→Option (Nat×Path)} {k:Nat} {f:(t:RT)→Th (List t.ty)→Option (Th (List t.ty))} {t2:RT} {l2:Th (List t2.ty)} {hdr:Value} : ∀(pre:List (Th Int×Nat)) (p:Path) (t:RT) (l l':Th (List t.ty)) (v:Value),
  OwnA om k w p v (.list t l)→subA t l pre=some (.list t2 l2)→C2 om k w t l v pre hdr→updA f t l pre=some l'→(∀l2',f t2 l2=some l2'→OwnA om' k w' (p++E8 pre) hdr (.list t2 l2')) →
  (∀b q,om b=some (k,p++q) → ¬(E8 pre <+: q)→om' b=some (k,p++q)∧w'.heap[b]? = w.heap[b]?)→OwnA om' k w' p v (.list t l')
 |[],p,t,l,l',v,ho,hs,hm,hu,hf,_=>by
  simp only[subA,Option.some.injEq,A.list.injEq]at hs
  obtain⟨rfl,hs⟩:=hs
  cases hs
  simp only[C2]at hm
  subst hm
  simp only[updA]at hu
  simpa [E8]using hf l' hu
 |(i,j)::r,p,t,l,l',v,ho,hs,hm,hu,hf,hold=>by
  obtain⟨b,cap,q,h1,h2,h3,h4,u,t3,l3,h5,h6,h7⟩:=hm
  simp only[subA,h6]at hs
  simp only[updA,h6]at hu
  split at hu
  ·rename_i l3' hl3
   split at hu
   ·rename_i e' he'
    cases hu
    rcases ho.list with ⟨hv,_⟩|⟨b',cap',cs,T,vs,as,hr,hb,hc⟩
    ·rw[hv]at h1;cases h1
    ·have hv:=hr.hv
     rw[h1]at hv
     simp only[Value.slice.injEq,Option.some.injEq,Addr.mk.injEq]at hv
     obtain⟨⟨rfl,_⟩,_,_⟩:=hv
     have hj:=a0e h6
     obtain⟨g1,g2⟩:=hr.hg _ _ h4 hj
     rw[o9 hr.hh,g2]at h5
     cases h5
     have h6c:celA t (l ()) (i ()).toNat j=some (.list t3 l3):=by rw[←J6];exact h6
     rw[g1]at h6c
     have h6':=Option.some.inj h6c
     have hcc:=hc _ _ h4 hj
     rw[h6']at hcc
     have hsame:=X1 _ _ _ he'
     obtain⟨c1,c2⟩:=a6J h4 hsame
     have hin:=b2x r (p ++ [((i ()).toNat,j)]) t3 l3 l3' _ hcc hs h7 hl3 (fun l2' hl2'=>by have:=hf l2' hl2';simpa [E8]using this) (fun b'' q' hb'' hq'=>by
      have:=hold b'' (((i ()).toNat,j)::q') (by simpa using hb'') (by
       intro hpre
       apply hq'
       simp only[E8,List.map_cons,List.cons_prefix_cons]at hpre
       exact hpre.2)
      simpa using this)
     obtain⟨k1,k2⟩:=hold b [] (by simpa using hb) (by simp[E8])
     have hrow:RowM w' t (B5 t l i e' ()) v b cap' cs T vs (asOf t (B5 t l i e' ())) :=
      ⟨by rw[F3];exact hr.hv,by rw[k2];exact hr.hh,by rw[F3];exact hr.hc,hr.hm,hr.hs,by rw[F3];exact hr.hl,fun i' j' hi' hj'=>⟨E7 hj',(hr.hg i' j' (by rw[F3]at hi';exact hi') hj').2⟩⟩
     refine hrow.own (by simpa using k1) fun i' j' hi' hj' => ?_
     rw[F3]at hi'
     have hcell:=E7 (l:=B5 t l i e' ()) (i:=i') hj'
     by_cases he:i'=(i ()).toNat
     ·subst he
      obtain⟨a1,m1,m2⟩:=c2 j' _ hcell
      by_cases hjj:j'=j
      ·subst hjj
       have hset:((enc t fun _=>nth t (l ()) (i ()).toNat).set j' (.list t3 l3'))[j']? = some (.list t3 l3'):=by
        rw[List.getElem?_set_self]
        rw[D8];exact hj
       rw[hset]at m1
       cases m1
       exact hin.same m2
      ·rw[List.getElem?_set_ne (Ne.symm hjj)]at m1
       have m3:celA t (l ()) (i ()).toNat j'=some a1:=m1
       rw[(hr.hg _ _ hi' hj').1]at m3
       cases m3
       refine((hc _ _ hi' hj').mono _ fun b'' q' hb'' => ?_).same m2
       have:=hold b'' (((i ()).toNat,j')::q') (by simpa using hb'') (by
        intro hpre
        simp only[E8,List.map_cons,List.cons_prefix_cons,Prod.mk.injEq]at hpre
        exact hjj hpre.1.2.symm)
       simpa using this
     ·have m3:=c1 i' j' he
      rw[hcell,(hr.hg _ _ hi' hj').1]at m3
      rw[Option.some.inj m3]
      refine(hc _ _ hi' hj').mono _ fun b'' q' hb'' => ?_
      have:=hold b'' ((i',j')::q') (by simpa using hb'') (by
       intro hpre
       simp only[E8,List.map_cons,List.cons_prefix_cons,Prod.mk.injEq]at hpre
       exact he hpre.1.1.symm)
      simpa using this
   ·cases hu
  ·cases hu
end
end Go.Sx
namespace Go.Sx
section
variable {e e':Env} {hp hp':Hp} {w w':World} {L:Locks} {B:Base}
theorem Rel.step {tmps:Array Value} {σ : St} (h:Rel B e w tmps σ) (hs:HR e' hp' w'∧SR e σ.hp w e' hp' w'∧FrS e σ.hp w e' hp' w'):Rel B e' w' tmps ⟨σ.tm,hp',σ.up⟩ :=
 ⟨hs.1,h.fr.step hs.2.2,UpR.mono hs.2.1 _ _ h.up,fun t=>VR.mono hs.2.1 _ _ (h.tm t)⟩
def Stp (e:Env) (hp:Hp) (w:World) (e':Env) (hp':Hp) (w':World):Prop:=HR e' hp' w'∧SR e hp w e' hp' w'∧FrS e hp w e' hp' w'
theorem Q0 (h:HR e hp w) (k ver:Nat) (hv:(hp.get k).1<ver) (hk:keeps (hp.get k) (ver,.dead)=true):Stp e hp w e (hp.set k (ver,.dead)) w:=by
 have hkr : ∀k',KR e hp w e (hp.set k (ver,.dead)) w k':=fun k'=>by
  by_cases hkk:k'=k
  ·subst hkk
   exact .bump (by rw[Tr.e8];exact hv)
  ·exact .same (Tr.j7 _ _ hkk) rfl fun b q hb=>⟨hb,rfl⟩
 have hsr:SR e hp w e (hp.set k (ver,.dead)) w:=⟨fun b hb=>⟨hb,rfl⟩,hkr⟩
 refine⟨h.step hsr (fun k' => ?_) h.sOk h.oOk,hsr,⟨rfl,rfl,rfl,fun _ h => .inl h,Nat.le_refl _,fun b _ ho=>⟨rfl,ho⟩,fun b k' off n cs arr T h1 h2 h3 h4 h5 => ?_⟩⟩
 ·by_cases hkk:k'=k
  ·subst hkk
   right
   rw[Tr.e8]
   trivial
  ·exact .inl ⟨Tr.j7 _ _ hkk,rfl,fun b q hb=>⟨hb,rfl⟩⟩
 ·have hkk:k'≠k:=by
   rintro rfl
   obtain⟨cs',h6,_,_⟩:=a0F hk h3
   cases h6
  exact⟨h1,rfl,⟨cs,by rw[Tr.j7 _ _ hkk];exact h3,D7 cs⟩,arr,h5,rfl,fun _ _=>rfl⟩
def Env.freeze (e:Env) (k:Nat):Env where
 S:=fun b=>e.S b ∨ ∃q,e.om b=some (k,q)
 om:=fun b=>match e.om b with
  |some (k',q)=>if k'=k then none else some (k',q)
  |none=>none
 E:=e.E
theorem c1n {k:Nat} {dp:Bool} {g:Nat} {t:RT} {l:Th (List t.ty)} (h:ChR e hp w k (.row dp g t l)):Rep (e.freeze k).S w (e.E k) (.list t l):=by
 cases dp with
 |true=>exact OwnA.rep h fun b r hr=>⟨.inr ⟨r,by simpa using hr⟩,rfl⟩
 |false =>
  rcases h with ⟨h1,h2⟩|⟨b,cap,cs,T,vs,as,h1,h2,h3⟩
  ·rw[h1];exact .nil t l h2
  ·rw[h1.hv]
   exact .row t l b 0 cap cs T (0,0) vs as (.inr ⟨_,h2⟩) h1.hh h1.hc h1.hl (fun i j hi hj=>by simpa using h1.hg i j hi hj) fun i j hi hj=>(h3 i j hi hj).mono fun b hb=>⟨.inl hb,rfl⟩
theorem a1d (h:HR e hp w) {k ver g:Nat} {dp:Bool} {t:RT} {l:Th (List t.ty)} (hx:hp.get k=(ver,.row dp g t l)):Stp e hp w (e.freeze k) (hp.set k (ver,.ro t l)) w:=by
 have hch:=h.chs k
 rw[hx]at hch
 have hom : ∀k' b q,k'≠k→e.om b=some (k',q)→(e.freeze k).om b=some (k',q)∧w.heap[b]? = w.heap[b]? := fun k' b q hne hb=>⟨by simp[Env.freeze,hb,hne],rfl⟩
 have hkr : ∀k',KR e hp w (e.freeze k) (hp.set k (ver,.ro t l)) w k':=fun k'=>by
  by_cases hkk:k'=k
  ·subst hkk
   refine .upd (by rw[Tr.e8,hx]) rfl ?_
   rw[Tr.e8,hx]
   exact .ro dp g t l
  ·exact .same (Tr.j7 _ _ hkk) rfl fun b q hb=>hom k' b q hkk hb
 have hsr:SR e hp w (e.freeze k) (hp.set k (ver,.ro t l)) w:=⟨fun b hb=>⟨.inl hb,rfl⟩,hkr⟩
 refine⟨h.step hsr (fun k' => ?_) (fun b hb => ?_) (fun b x hb => ?_),hsr,⟨rfl,rfl,rfl,fun b hb => ?_,Nat.le_refl _,fun b _ ho=>⟨rfl,by simp[Env.freeze,ho]⟩,fun b k' off n cs arr T h1 h2 h3 h4 h5 => ?_⟩⟩
 ·by_cases hkk:k'=k
  ·subst hkk
   right
   rw[Tr.e8]
   exact c1n hch
  ·exact .inl ⟨Tr.j7 _ _ hkk,rfl,fun b q hb=>hom k' b q hkk hb⟩
 ·rcases hb with hb|⟨q,hb⟩
  ·obtain⟨h1,h2⟩:=h.sOk b hb
   exact⟨by simp[Env.freeze,h1],h2⟩
  ·exact⟨by simp[Env.freeze,hb],h.oOk b _ hb⟩
 ·simp only[Env.freeze]at hb
  split at hb
  ·rename_i k' q ho
   exact h.oOk b _ ho
  ·cases hb
 ·rcases hb with hb|⟨q,hb⟩
  ·exact .inl hb
  ·exact .inr (.inl (by rw[hb];simp))
 ·have hkk:k'≠k:=by
   rintro rfl
   rw[hx]at h3
   cases h3
  exact⟨(hom k' b [] hkk h1).1,rfl,⟨cs,by rw[Tr.j7 _ _ hkk];exact h3,D7 cs⟩,arr,h5,rfl,fun _ _=>rfl⟩
theorem Stp.refl (h:HR e hp w):Stp e hp w e hp w :=
 ⟨h,SR.refl _ _ _,⟨rfl,rfl,rfl,fun _ h => .inl h,Nat.le_refl _,fun _ _ ho=>⟨rfl,ho⟩,fun _ _ _ _ cs arr _ h1 _ h3 h4 h5=>⟨h1,rfl,⟨cs,h3,D7 cs⟩,arr,h5,rfl,fun _ _=>rfl⟩⟩⟩
inductive Stps:Env→Hp→World→Env→Hp→World→Prop
 |refl (e:Env) (hp:Hp) (w:World):Stps e hp w e hp w
 |cons {e hp w e1 hp1 w1 e' hp' w'}:Stp e hp w e1 hp1 w1→Stps e1 hp1 w1 e' hp' w'→Stps e hp w e' hp' w'
theorem Stps.one (h:Stp e hp w e' hp' w'):Stps e hp w e' hp' w' := .cons h (.refl _ _ _)
theorem Stps.trans {e1:Env} {hp1:Hp} {w1:World} (h:Stps e hp w e1 hp1 w1) (h':Stps e1 hp1 w1 e' hp' w'):Stps e hp w e' hp' w':=by
 induction h with
 |refl=>exact h'
 |cons a _ ih=>exact .cons a (ih h')
theorem Stps.hr (h:Stps e hp w e' hp' w') (h0:HR e hp w):HR e' hp' w':=by
 induction h with
 |refl=>exact h0
 |cons a _ ih=>exact ih a.1
theorem Stps.rel {tmps:Array Value} {tm:Tr V} {up:List (Tr V)} (h:Stps e hp w e' hp' w') (h0:Rel B e w tmps ⟨tm,hp,up⟩):Rel B e' w' tmps ⟨tm,hp',up⟩:=by
 induction h with
 |refl=>exact h0
 |cons a _ ih=>exact ih (h0.step a)
theorem Stps.CR (h:Stps e hp w e' hp' w') {v:Value} {c:C} (hc:CR e hp w v c):Sx.CR e' hp' w' v c:=by
 induction h with
 |refl=>exact hc
 |cons a _ ih=>exact ih (CR.mono a.2.1.S a.2.1.k c v hc)
theorem Stps.CRs (h:Stps e hp w e' hp' w') {vs:List Value} {cs:List C} (hc:CRs e hp w vs cs):Sx.CRs e' hp' w' vs cs:=by
 induction h with
 |refl=>exact hc
 |cons a _ ih=>exact ih (CRs.mono a.2.1.S a.2.1.k cs vs hc)
theorem Stps.VR (h:Stps e hp w e' hp' w') {v:Value} {x:V} (hc:VR e hp w v x):Sx.VR e' hp' w' v x:=by
 induction h with
 |refl=>exact hc
 |cons a _ ih=>exact ih (VR.mono a.2.1 x v hc)
theorem Stps.Rep (h:Stps e hp w e' hp' w') {v:Value} {a:A} (hc:Rep e.S w v a):Sx.Rep e'.S w' v a:=by
 induction h with
 |refl=>exact hc
 |cons a _ ih=>exact ih (hc.mono a.2.1.S)
theorem Stps.ver (h:Stps e hp w e' hp' w') (k:Nat):(hp.get k).1≤(hp'.get k).1:=by
 induction h with
 |refl=>exact Nat.le_refl _
 |cons a _ ih=>exact Nat.le_trans (a.2.1.k k).ver ih
theorem b5i : ∀(cs:List C) (s:List (Option RT)) (us:List Value) (e:Env) (hp:Hp) (K:List A→Hp→Prop),HR e hp w→CRs e hp w us cs→(E2 false s cs).wp L hp K →
  ∃e' hp' as,Stps e hp w e' hp' w∧K as hp'∧as.length=us.length ∧ ∀(m:Nat) u a,us[m]? = some u→as[m]? = some a→Sx.Rep e'.S w u a
 |[],s,us,e,hp,K,_,hc,hm=>by
  cases us with
  |cons _ _=>simp only[Sx.CRs]at hc
  |nil=>cases s<;>exact⟨e,hp,[],.refl _ _ _,hm,rfl,fun m u a hu=>by simp at hu⟩
 |c::cs,[],us,e,hp,K,_,_,hm=>by simp only[E2,M.wp]at hm
 |c::cs,o::s,us,e,hp,K,h,hc,hm=>by
  cases us with
  |nil=>simp only[Sx.CRs]at hc
  |cons u us =>
   simp only[Sx.CRs]at hc
   have go : ∀(e1:Env) (hp1:Hp) (a:A),Stps e hp w e1 hp1 w→Sx.Rep e1.S w u a→((E2 false s cs).bind fun r=>M.ret (a::r)).wp L hp1 K →
     ∃e' hp' as,Stps e hp w e' hp' w∧K as hp'∧as.length=(u::us).length ∧ ∀(m:Nat) v b,(u::us)[m]? = some v→as[m]? = some b→Sx.Rep e'.S w v b:=by
    intro e1 hp1 a hst hra hm1
    rw[M.wp_bind]at hm1
    obtain⟨e',hp',as,h1,h2,h3,h4⟩:=b5i cs s us e1 hp1 _ (hst.hr h) (hst.CRs hc.2) hm1
    refine⟨e',hp',a::as,hst.trans h1,h2,by simp[h3],fun m v b hv hb => ?_⟩
    cases m with
    |zero=>simp at hv hb;subst hv;subst hb;exact h1.Rep hra
    |succ m=>exact h4 m v b (by simpa using hv) (by simpa using hb)
   cases c with
   |att a =>
    simp only[Sx.CR]at hc
    cases a<;>(simp only[E2,Bool.false_eq_true,if_false]at hm;exact go e hp _ (.refl _ _ _) hc.1 hm)
   |nil =>
    simp only[Sx.CR]at hc
    cases o with
    |none=>simp only[E2,M.wp]at hm
    |some t =>
     simp only[E2]at hm
     rw[hc.1]at go
     rw[hc.1]
     exact go e hp _ (.refl _ _ _) (.nil t _ rfl) hm
   |own k v =>
    simp only[E2]at hm
    have hm:=M.u4 hm
    simp only[Sx.CR]at hc
    cases hx:hp.get k with
    |mk v' ch =>
     rw[hx]at hm hc
     cases ch with
     |row dp' g t l =>
      simp only at hm
      split at hm
      ·rename_i hv
       simp only[Bool.false_eq_true,if_false]at hm
       obtain⟨_,hm⟩:=M.D3 hm
       subst hv
       have hch:=h.chs k
       rw[hx]at hch
       have hu:=hc.1.2 rfl
       rw[hu]at go
       rw[hu]
       exact go _ _ _ (.one (a1d h hx)) (c1n hch) hm
      ·simp only[M.wp]at hm
     |ro t l =>
      simp only at hm
      split at hm
      ·rename_i hv
       simp only[Bool.false_eq_true,if_false]at hm
       subst hv
       have hch:=h.chs k
       rw[hx]at hch
       have hu:=hc.1.2 rfl
       rw[hu]at go
       rw[hu]
       exact go e hp _ (.refl _ _ _) hch hm
      ·simp only[M.wp]at hm
     |_=>simp only[M.wp]at hm
   |_=>simp only[E2,M.wp]at hm
structure Flt (e:Env) (hp0 hp:Hp) (w:World) (us:List Value) (as:List A) (fl:List (Option Nat)):Prop where
 len:as.length=us.length
 flen:fl.length=us.length
 own : ∀(m:Nat) u a f,us[m]? = some u→as[m]? = some a→fl[m]? = some f→match f with
  |none => ∀om k p w',OwnA om k w' p u a
  |some kd=>OwnA e.om kd w [] u a
 alive : ∀kd,some kd∈fl→(hp0.get kd).2 ≠ .dead∧(hp.get kd).2 = .dead
 inj : ∀(m m':Nat) kd,fl[m]? = some (some kd)→fl[m']? = some (some kd)→m=m'
 dead : ∀kd,(hp0.get kd).2 = .dead→(hp.get kd).2 = .dead
 keep : ∀kd,some kd ∉ fl→hp.get kd=hp0.get kd
theorem a6L : ∀(cs:List C) (s:List (Option RT)) (us:List Value) (hp:Hp) (K:List A→Hp→Prop),HR e hp w→CRs e hp w us cs→(E2 true s cs).wp L hp K →
  ∃hp' as fl,Stps e hp w e hp' w∧K as hp'∧Flt e hp hp' w us as fl
 |[],s,us,hp,K,_,hc,hm=>by
  cases us with
  |cons _ _=>simp only[Sx.CRs]at hc
  |nil=>cases s<;>exact⟨hp,[],[],.refl _ _ _,hm,⟨rfl,rfl,fun m u a f hu=>(by simp at hu),fun kd hk=>(by cases hk),fun m m' kd h=>(by simp at h),fun _ h=>h,fun _ _=>rfl⟩⟩
 |c::cs,[],us,hp,K,_,_,hm=>by simp only[E2,M.wp]at hm
 |c::cs,o::s,us,hp,K,h,hc,hm=>by
  cases us with
  |nil=>simp only[Sx.CRs]at hc
  |cons u us =>
   simp only[Sx.CRs]at hc
   have go : ∀(a:A),(∀om k p w',OwnA om k w' p u a)→((E2 true s cs).bind fun r=>M.ret (a::r)).wp L hp K → ∃hp' as fl,Stps e hp w e hp' w∧K as hp'∧Flt e hp hp' w (u::us) as fl:=by
    intro a hra hm1
    rw[M.wp_bind]at hm1
    obtain⟨hp',as,fl,h1,h2,F⟩:=a6L cs s us hp _ h hc.2 hm1
    refine⟨hp',a::as,none::fl,h1,h2,⟨by simp[F.len],by simp[F.flen],fun m v b f hv hb hf => ?_,fun kd hk=>F.alive kd (by simpa using hk),fun m m' kd hm hm' => ?_,F.dead,fun kd hk=>F.keep kd (by simpa using hk)⟩⟩
    ·cases m with
     |zero=>simp at hv hb hf;subst hv;subst hb;subst hf;exact hra
     |succ m=>exact F.own m v b f (by simpa using hv) (by simpa using hb) (by simpa using hf)
    ·cases m with
     |zero=>simp at hm
     |succ m=>cases m' with
      |zero=>simp at hm'
      |succ m'=>rw[F.inj m m' kd (by simpa using hm) (by simpa using hm')]
   cases c with
   |att a =>
    simp only[Sx.CR]at hc
    cases a with
    |int kd n =>
     simp only[E2]at hm
     have hr:=hc.1
     cases hr with
     |int _ _ h1 h2=>exact go _ (fun om k p w' => .int p kd n h1 h2) hm
    |bool b =>
     simp only[E2]at hm
     have hr:=hc.1
     cases hr
     exact go _ (fun om k p w' => .bool p b) hm
    |list t l=>simp only[E2,if_true,M.wp]at hm
   |nil =>
    simp only[Sx.CR]at hc
    cases o with
    |none=>simp only[E2,M.wp]at hm
    |some t =>
     simp only[E2]at hm
     rw[hc.1]at go
     rw[hc.1]
     exact go _ (fun om k p w' => .nil p t _ rfl) hm
   |own k v =>
    simp only[E2]at hm
    have hm:=M.u4 hm
    simp only[Sx.CR]at hc
    cases hx:hp.get k with
    |mk v' ch =>
     rw[hx]at hm hc
     cases ch with
     |row dp' g t l =>
      simp only at hm
      split at hm
      ·rename_i hv
       simp only[if_true]at hm
       split at hm
       ·rename_i hdp
        subst hdp
        obtain⟨hk,hm⟩:=M.D3 hm
        subst hv
        have hch:=h.chs k
        rw[hx]at hch
        have hu:=hc.1.2 rfl
        have hst:=Q0 h k (v+1) (by rw[hx];exact Nat.lt_succ_self _) hk
        rw[M.wp_bind]at hm
        obtain⟨hp',as,fl,h1,h2,F⟩:=a6L cs s us _ _ hst.1 ((Stps.one hst).CRs hc.2) hm
        have hkn:some k ∉ fl:=fun hin=>(F.alive k hin).1 (by rw[Tr.e8])
        refine⟨hp',.list t l::as,some k::fl,(Stps.one hst).trans h1,h2,⟨by simp[F.len],by simp[F.flen],fun m v' b f hv' hb hf => ?_,fun kd hkd => ?_,fun m m' kd hm hm' => ?_,fun kd hkd => ?_,fun kd hkd => ?_⟩⟩
        ·cases m with
         |zero=>simp at hv' hb hf;subst hv';subst hb;subst hf;rw[hu];exact hch
         |succ m=>exact F.own m v' b f (by simpa using hv') (by simpa using hb) (by simpa using hf)
        ·simp only[List.mem_cons,Option.some.injEq]at hkd
         rcases hkd with rfl|hkd
         ·exact⟨by rw[hx];simp,F.dead kd (by rw[Tr.e8])⟩
         ·obtain⟨g1,g2⟩:=F.alive kd hkd
          have:kd≠k:=fun h=>hkn (h▸hkd)
          rw[Tr.j7 _ _ this]at g1
          exact⟨g1,g2⟩
        ·cases m with
         |zero=>cases m' with
          |zero=>rfl
          |succ m'=>simp at hm hm';subst hm;exact(hkn (List.mem_of_getElem? hm')).elim
         |succ m=>cases m' with
          |zero=>simp at hm hm';subst hm';exact(hkn (List.mem_of_getElem? hm)).elim
          |succ m'=>rw[F.inj m m' kd (by simpa using hm) (by simpa using hm')]
        ·refine F.dead kd ?_
         by_cases hkk:kd=k
         ·subst hkk;rw[Tr.e8]
         ·rw[Tr.j7 _ _ hkk];exact hkd
        ·simp only[List.mem_cons,Option.some.injEq,not_or]at hkd
         rw[F.keep kd hkd.2,Tr.j7 _ _ hkd.1]
       ·simp only[M.wp]at hm
      ·simp only[M.wp]at hm
     |ro t l =>
      simp only at hm
      split at hm
      ·simp only[if_true,M.wp]at hm
      ·simp only[M.wp]at hm
     |_=>simp only[M.wp]at hm
   |_=>simp only[E2,M.wp]at hm
end
end Go.Sx
namespace Go.Sx
section
variable {e e':Env} {hp hp':Hp} {w w':World} {L:Locks} {B:Base}
theorem KR.turn {k v:Nat} {c0 x:Ch} (hx:hp.get k=(v,c0)) (hE:e'.E k=e.E k) (h:ChUpd c0 x):KR e hp w e' (hp.set k (v,x)) w' k:=by
 refine .upd (by rw[Tr.e8,hx]) hE ?_
 rw[Tr.e8,hx]
 exact h
theorem a0H (h:HR e hp w) {k b v T:Nat} {q:Path} {c0 x:Ch} {cs arr:Array Value} (hb:e.om b=some (k,q)) (hh:w.heap[b]? = some (.cells cs T (0,0))) (hx:hp.get k=(v,c0))
  (om':Nat→Option (Nat×Path)) (hom1 : ∀b' k' q',e.om b'=some (k',q')→k'≠k→om' b'=some (k',q')∨(hp.get k').2 = .dead) (hom2 : ∀b',e.om b'=none→om' b'=none) (hom3 : ∀b' y,om' b'=some y→b'<w.heap.size)
  (hupd:KR e hp w ⟨e.S,om',e.E⟩ (hp.set k (v,x)) (w.setRow b arr) k)
  (hch:ChR ⟨e.S,om',e.E⟩ (hp.set k (v,x)) (w.setRow b arr) k x)
  (hbx : ∀cs0,c0 = .var true cs0 → ∃off,e.E k = .pointer (some ⟨b,off,none⟩)∧(∃cs',x = .var true cs'∧X4 cs0 cs'=true)∧om' b=some (k,[])∧arr.size=cs.size ∧ ∀o,(o<off∨off+cs0.length≤o∨BAt off cs0 o)→arr[o]? = cs[o]?) :
  Stp e hp w ⟨e.S,om',e.E⟩ (hp.set k (v,x)) (w.setRow b arr):=by
 have hheap : ∀b',b'≠b→(w.setRow b arr).heap[b']? = w.heap[b']? := fun b' hne=>setRow_other w b b' arr hne
 have hsize:(w.setRow b arr).heap.size=w.heap.size:=by simp[World.setRow]
 have halive : ∀b' k' q',e.om b'=some (k',q')→k'≠k→b'≠b:=fun b' k' q' h1 h2 h3=>by
  subst h3
  rw[hb]at h1
  cases h1
  exact h2 rfl
 have hkr : ∀k',KR e hp w ⟨e.S,om',e.E⟩ (hp.set k (v,x)) (w.setRow b arr) k':=fun k'=>by
  by_cases hkk:k'=k
  ·subst hkk
   exact hupd
  ·by_cases hd:(hp.get k').2 = .dead
   ·refine .upd (by rw[Tr.j7 _ _ hkk]) rfl ?_
    rw[Tr.j7 _ _ hkk,hd]
    exact(.dead _)
   ·exact .same (Tr.j7 _ _ hkk) rfl fun b' q' hb'=>⟨(hom1 b' k' q' hb' hkk).resolve_right hd,hheap b' (halive b' k' q' hb' hkk)⟩
 have hS : ∀b',e.S b'→b'≠b:=fun b' h1 h2=>by
  subst h2
  rw[(h.sOk b' h1).1]at hb
  cases hb
 have hsr:SR e hp w ⟨e.S,om',e.E⟩ (hp.set k (v,x)) (w.setRow b arr):=⟨fun b' h1=>⟨h1,hheap b' (hS b' h1)⟩,hkr⟩
 refine⟨h.step hsr (fun k' => ?_) (fun b' h1=>⟨hom2 b' (h.sOk b' h1).1,by rw[hsize];exact(h.sOk b' h1).2⟩) (fun b' y hy=>by rw[hsize];exact hom3 b' y hy),hsr,
  ⟨rfl,rfl,rfl,fun _ h => .inl h,by rw[hsize];exact Nat.le_refl _,fun b' hb' ho=>⟨hheap b' (fun h1=>by subst h1;rw[hb]at ho;cases ho),hom2 b' ho⟩,fun b' k' off n cs1 arr1 T1 h1 h2 h3 h4 h5 => ?_⟩⟩
 ·by_cases hkk:k'=k
  ·subst hkk
   right
   rw[Tr.e8]
   exact hch
  ·by_cases hd:(hp.get k').2 = .dead
   ·right
    rw[Tr.j7 _ _ hkk,hd]
    trivial
   ·exact .inl ⟨Tr.j7 _ _ hkk,rfl,fun b' q' hb'=>⟨(hom1 b' k' q' hb' hkk).resolve_right hd,hheap b' (halive b' k' q' hb' hkk)⟩⟩
 ·by_cases hkk:k'=k
  ·subst hkk
   rw[hx]at h3
   obtain⟨off',g0,⟨cs',g1,g2⟩,g3,g4,g5⟩:=hbx cs1 h3
   rw[h2]at g0
   cases g0
   rw[hh]at h5
   cases h5
   exact⟨g3,rfl,⟨cs',by rw[Tr.e8];exact g1,g2⟩,arr,setRow_heap w _ cs arr T _ hh,g4,fun o ho=>g5 o (by rw[h4];exact ho)⟩
  ·have hd:(hp.get k').2 ≠ .dead:=by rw[h3];simp
   exact⟨(hom1 b' k' [] h1 hkk).resolve_right hd,rfl,⟨cs1,by rw[Tr.j7 _ _ hkk];exact h3,D7 cs1⟩,arr1,by rw[hheap b' (halive b' k' [] h1 hkk)];exact h5,rfl,fun _ _=>rfl⟩
theorem C7 (l:List Value) (o:Nat):l.toArray[o]? = l[o]? := by simp
theorem a5l {t:RT} {n cap i j m sz:Nat} (hi:i<n) (hc:n≤cap) (hj:j+m≤t.size) (hs:sz=cap * t.size):i * t.size+j+m≤sz:=by
 have:(i+1) * t.size≤cap * t.size:=Nat.mul_le_mul_right _ (by omega)
 rw[Nat.add_mul]at this
 omega
def wrote (w:World) (b o:Nat) (cs:Array Value) (us:List Value):World:=w.setRow b (putAt cs.toList o us).toArray
theorem N1 {P:Program} {b o T:Nat} {cs:Array Value} {us:List Value} (hh:w.heap[b]? = some (.cells cs T (0,0))) (hl:o+us.length≤cs.size) (h1 : ∀u∈us,one u) :
  (storeCells ⟨b,o,none⟩ us).run P w = .ok () (wrote w b o cs us):=by
 have:=run_storeCells_at P b o T us 0 cs w hh (by simpa using hl) h1
 simpa [wrote,putAt]using this
theorem c2X (h:HR e hp w) {k v j:Nat} {bx:Bool} {cs:List C} {us:List Value} {xs:List C} (hx:hp.get k=(v,.var bx cs)) (hlen:j+xs.length≤cs.length) (hus:CRs e hp w us xs) (h1 : ∀u∈us,one u) (hfb:bx=true→((cs.drop j).take xs.length).all (fun c => !c.isB)=true) :
  ∃b off cs0 T,e.E k = .pointer (some ⟨b,off,none⟩)∧w.heap[b]? = some (.cells cs0 T (0,0))∧off+j+us.length≤cs0.size∧Stp e hp w e (hp.set k (v,.var bx (putAt cs j xs))) (wrote w b (off+j) cs0 us):=by
 have hch:=h.chs k
 rw[hx]at hch
 obtain⟨b,off,arr,T,a1,a2,a3,a4,a5⟩:=hch
 have hul:=hus.length
 refine⟨b,off,arr,T,a1,a3,by omega,?_⟩
 have hsz:(putAt arr.toList (off+j) us).toArray.size=arr.size:=by
  simp only[List.size_toArray]
  rw[o8 _ _ _ (by simp;omega)]
  simp
 have hheap : ∀b',b'≠b→(wrote w b (off+j) arr us).heap[b']? = w.heap[b']? := fun b' hne=>setRow_other w b b' _ hne
 have hkr : ∀k',KR e hp w e (hp.set k (v,.var bx (putAt cs j xs))) (wrote w b (off+j) arr us) k':=fun k'=>by
  by_cases hkk:k'=k
  ·subst hkk
   refine .upd (by rw[Tr.e8,hx]) rfl ?_
   rw[Tr.e8,hx]
   exact .var bx cs _
  ·refine .same (Tr.j7 _ _ hkk) rfl fun b' q' hb'=>⟨hb',hheap b' fun h3 => ?_⟩
   subst h3
   rw[a2]at hb'
   cases hb'
   exact hkk rfl
 have hS : ∀b',e.S b'→e.S b'∧(wrote w b (off+j) arr us).heap[b']? = w.heap[b']? := fun b' g1=>⟨g1,hheap b' fun g2=>by
  subst g2
  rw[(h.sOk b' g1).1]at a2
  cases a2⟩
 refine a0H (om':=e.om) h a2 a3 hx (fun b' k' q' g1 _ => .inl g1) (fun b' g1=>g1) h.oOk (KR.turn hx rfl (.var bx cs _)) ?_ fun cs0 hc0 => ?_
 ·refine⟨b,off,_,T,a1,a2,setRow_heap w b arr _ T _ a3,?_,fun m c hm => ?_⟩
  ·rw[o8 _ _ _ hlen,hsz];exact a4
  ·rw[C7]
   by_cases hin:j≤m∧m<j+xs.length
   ·have e1:m=j+(m-j):=by omega
    rw[e1,K9 _ _ _ hlen _ (by omega)]at hm
    obtain⟨u,g1,g2⟩:=hus.get (m-j) hm
    have e2:off+m=off+j+(m-j):=by omega
    rw[e2,K9 _ _ _ (by simp;omega) _ (by omega)]
    exact⟨u,g1,CR.mono hS hkr c u g2,h1 u (List.mem_of_getElem? g1)⟩
   ·rw[A5 _ _ _ hlen _ (by omega)]at hm
    obtain⟨u,g1,g2,g3⟩:=a5 m c hm
    rw[A5 _ _ _ (by simp;omega) _ (by omega)]
    exact⟨u,by simpa using g1,CR.mono hS hkr c u g2,g3⟩
 ·cases hc0
  have hfree:=hfb rfl
  have hnb : ∀i c,cs[i]? = some c→c.isB=true→i<j∨j+xs.length≤i:=fun i c hc hb=>by
   by_cases hin:j≤i∧i<j+xs.length
   ·have hm:c∈(cs.drop j).take xs.length:=by
     rw[List.mem_iff_getElem?]
     refine⟨i-j,?_⟩
     rw[List.getElem?_take,if_pos (by omega),List.getElem?_drop,show j+(i-j)=i by omega]
     exact hc
    have:=List.all_eq_true.1 hfree c hm
    rw[hb]at this
    cases this
   ·omega
  refine⟨off,a1,⟨_,rfl,b0y (o8 _ _ _ hlen) fun i c hc hb=>⟨c,by rw[A5 _ _ _ hlen _ (hnb i c hc hb)];exact hc,hb⟩⟩,a2,hsz,fun o ho => ?_⟩
  have ho':o<off+j∨off+j+us.length≤o:=by
   rcases ho with ho|ho|⟨i,c,rfl,hc,hb⟩
   ·omega
   ·omega
   ·have:=hnb i c hc hb
    omega
  rw[C7,A5 _ _ _ (by simp;omega) _ ho']
  simp
def pos:List (Option Nat)→Nat→Option Nat
 |[],_=>none
 |f::r,kd=>if f=some kd then some 0 else(pos r kd).map (· + 1)
theorem a5S : ∀(fl:List (Option Nat)) (kd m:Nat),pos fl kd=some m→fl[m]? = some (some kd)
 |[],_,_,h=>by cases h
 |f::r,kd,m,h=>by
  unfold pos at h
  split at h
  ·cases h;rename_i hf;simp[hf]
  ·cases hp:pos r kd with
   |none=>rw[hp]at h;cases h
   |some m'=>rw[hp]at h;cases h;simpa using a5S r kd m' hp
theorem c1t : ∀(fl:List (Option Nat)) (kd:Nat),some kd∈fl → ∃m,pos fl kd=some m
 |[],_,h=>by cases h
 |f::r,kd,h=>by
  unfold pos
  split
  ·exact⟨0,rfl⟩
  ·rename_i hf
   cases h with
   |head=>exact(hf rfl).elim
   |tail _ h=>obtain⟨m,hm⟩:=c1t r kd h;exact⟨m+1,by rw[hm];rfl⟩
theorem c6B {fl:List (Option Nat)} {kd:Nat} (h:some kd ∉ fl):pos fl kd=none:=by
 cases hp:pos fl kd with
 |none=>rfl
 |some m=>exact(h (List.mem_of_getElem? (a5S _ _ _ hp))).elim
def F5 (om:Nat→Option (Nat×Path)) (fl:List (Option Nat)) (k:Nat) (f:Nat→Path):Nat→Option (Nat×Path):=fun b =>
 match om b with
 |some (kd,q)=>match pos fl kd with
  |some m=>some (k,f m++q)
  |none=>some (kd,q)
 |none=>none
theorem a6H {om:Nat→Option (Nat×Path)} {fl:List (Option Nat)} {k:Nat} {f:Nat→Path} {b kd:Nat} {q:Path} (h:om b=some (kd,q)) (hn:some kd ∉ fl):F5 om fl k f b=some (kd,q):=by
 simp[F5,h,c6B hn]
theorem b8f {om:Nat→Option (Nat×Path)} {fl:List (Option Nat)} {k:Nat} {f:Nat→Path} {b kd m:Nat} {q:Path} (h:om b=some (kd,q)) (hn:pos fl kd=some m):F5 om fl k f b=some (k,f m++q):=by
 simp[F5,h,hn]
theorem Flt.pos {us:List Value} {as:List A} {fl:List (Option Nat)} {hp0:Hp} (F:Flt e hp0 hp w us as fl) {m kd:Nat} (h:fl[m]? = some (some kd)):Sx.pos fl kd=some m:=by
 obtain⟨m',hm'⟩:=c1t fl kd (List.mem_of_getElem? h)
 rw[hm',F.inj m' m kd (a5S _ _ _ hm') h]
structure AtRow (e:Env) (w:World) (k:Nat) (t:RT) (l:Th (List t.ty)) (pre:List (Th Int×Nat)) (i:Th Int) (j:Nat) (t2:RT) (l2:Th (List t2.ty)) (v:Value) (b cap T:Nat) (cs:Array Value) (vs:Nat→Nat→Value) (as:Nat→Nat→A):Prop where
 row:RowM w t2 (l2 ()) (.slice (some ⟨b,0,none⟩) (l2 ()).length cap) b cap cs T vs as
 hdr:C2 e.om k w t l (e.E k) pre (.slice (some ⟨b,0,none⟩) (l2 ()).length cap)
 own:e.om b=some (k,E8 pre)
 els : ∀i' j',i'<(l2 ()).length→j'<t2.size→OwnA e.om k w (E8 pre ++ [(i',j')]) (vs i' j') (as i' j')
 i0:0≤i ()
 ilt:(i ()).toNat<(l2 ()).length
 at_:v = .pointer (some ⟨b,(i ()).toNat * t2.size+j,none⟩)
theorem d2u (h:HR e hp w) {k ver g g' j:Nat} {pre:List (Th Int×Nat)} {i:Th Int} {v:Value} {t:RT} {l:Th (List t.ty)} (hc:CR e hp w v (.pp k ver g pre i j)) (hx:hp.get k=(ver,.row true g' t l)) (hg:pre = []∨g=g')
  {t2:RT} {l2:Th (List t2.ty)} (hsub:subA t l pre=some (.list t2 l2)) : ∃b cap T cs vs as,AtRow e w k t l pre i j t2 l2 v b cap T cs vs as:=by
 simp only[CR]at hc
 rw[hx]at hc
 have hch:=h.chs k
 rw[hx]at hch
 have h2:=hc.2 rfl
 cases pre with
 |nil =>
  simp only[subA,Option.some.injEq,A.list.injEq]at hsub
  obtain⟨rfl,hsub⟩:=hsub
  cases hsub
  obtain⟨b,len,cap,h1,h2,h3,h4⟩:=h2
  rcases OwnA.list hch with ⟨hE,_⟩|⟨b',cap',cs,T,vs,as,hr,ho,hrep⟩
  ·rw[hE]at h1;cases h1
  ·have hv':=hr.hv
   rw[h1]at hv'
   simp only[Value.slice.injEq,Option.some.injEq,Addr.mk.injEq]at hv'
   obtain⟨⟨rfl,_⟩,rfl,rfl⟩:=hv'
   have hr':=hr
   rw[hr.hv]at hr'
   exact⟨b,cap,T,cs,vs,as,hr',hr.hv.symm,by simpa [E8]using ho,fun i' j' hi' hj'=>by simpa [E8]using hrep i' j' hi' hj',h2,h3,h4 _ rfl⟩
 |cons x r =>
  obtain rfl:g=g':=hg.resolve_left (by simp)
  obtain⟨t2',l2',b,cap,a1,a2,a3,a4,a5⟩:=h2.2 t l rfl
  rw[hsub]at a1
  simp only[Option.some.injEq,A.list.injEq]at a1
  obtain⟨rfl,a1⟩:=a1
  cases a1
  have hown:=a1k _ _ _ _ _ _ _ _ hch hsub a2
  rcases hown.list with ⟨hE,_⟩|⟨b',cap',cs,T,vs,as,hr,ho,hrep⟩
  ·cases hE
  ·have hv':=hr.hv
   simp only[Value.slice.injEq,Option.some.injEq,Addr.mk.injEq]at hv'
   obtain⟨⟨rfl,_⟩,_,rfl⟩:=hv'
   exact⟨b,cap,T,cs,vs,as,hr,a2,by simpa using ho,fun i' j' hi' hj'=>by simpa using hrep i' j' hi' hj',a3,a4,a5⟩
theorem b5p {f:(t:RT)→Th (List t.ty)→Option (Th (List t.ty))} : ∀(pre:List (Th Int×Nat)) (t:RT) (l l':Th (List t.ty)) (t2:RT) (l2:Th (List t2.ty)),updA f t l pre=some l'→subA t l pre=some (.list t2 l2) → ∃l2',f t2 l2=some l2'
 |[],t,l,l',t2,l2,hu,hs=>by
  simp only[subA,Option.some.injEq,A.list.injEq]at hs
  obtain⟨rfl,hs⟩:=hs
  cases hs
  exact⟨l',hu⟩
 |(i,j)::r,t,l,l',t2,l2,hu,hs=>by
  simp only[updA]at hu
  simp only[subA]at hs
  split at hu
  ·rename_i t3 l3 h3
   rw[h3]at hs
   split at hu
   ·rename_i l3' hl3
    exact b5p r t3 l3 l3' t2 l2 hl3 hs
   ·cases hu
  ·cases hu
theorem b1N {f:(t:RT)→Th (List t.ty)→Option (Th (List t.ty))} : ∀(pre:List (Th Int×Nat)) (t:RT) (l l':Th (List t.ty)),updA f t l pre=some l' → ∃t2 l2,subA t l pre=some (.list t2 l2)
 |[],t,l,l',_=>⟨t,l,rfl⟩
 |(i,j)::r,t,l,l',hu=>by
  simp only[updA]at hu
  split at hu
  ·rename_i t3 l3 h3
   split at hu
   ·rename_i l3' hl3
    obtain⟨t2,l2,h⟩:=b1N r t3 l3 l3' hl3
    exact⟨t2,l2,by simp only[subA,h3];exact h⟩
   ·cases hu
  ·cases hu
theorem a5R {i:Th Int} {j:Nat} {as:List A} {t:RT} {l l':Th (List t.ty)} (h:G4 i j as t l=some l'):j+as.length≤t.size:=by
 unfold G4 at h
 split at h
 ·assumption
 ·cases h
def A.kd:A→Option RT
 | .list t _=>some t
 |_=>none
theorem d3c (t:RT) (e e':Th t.ty):(enc t e).map A.kd=(enc t e').map A.kd:=by
 cases t<;>rfl
theorem A.same.kd {a b:A} (h:A.same a b):a.kd=b.kd:=by
 cases h<;>rfl
theorem A.same.d2R {t:RT} {l:Th (List t.ty)} {b:A} (h:A.same (.list t l) b):b = .list t l:=by
 cases h with
 |list t l m e =>
  have:l=m:=funext fun _=>e
  rw[this]
theorem A.c4r {a:A} (h:a.isAtom=true):a.kd=none:=by
 cases a<;>first|rfl|cases h
theorem a9g {t:RT} {l:Th (List t.ty)} {i:Th Int} {e':Th t.ty} (h : ¬(i ()).toNat<(l ()).length):B5 t l i e'=l:=by
 funext u
 exact List.set_eq_of_length_le (Nat.le_of_not_lt h)
theorem b1i {t:RT} {l:Th (List t.ty)} {i:Th Int} {e':Th t.ty} {X:List A} (hX:dec t X=some e') (hi:(i ()).toNat<(l ()).length) {i0:Th Int} {j0:Nat} {t3:RT} {l3:Th (List t3.ty)}
  (h1:(i0 ()).toNat=(i ()).toNat→X[j0]? = some (.list t3 l3)) (h2:(i0 ()).toNat≠(i ()).toNat→a0p t l i0 j0=some (.list t3 l3)):a0p t (B5 t l i e') i0 j0=some (.list t3 l3):=by
 have hs:=X1 _ _ _ hX
 obtain⟨c1,c2⟩:=a6J hi hs
 by_cases he:(i0 ()).toNat=(i ()).toNat
 ·obtain⟨b,hb,hsb⟩:=hs.get j0 (h1 he)
  have hj:j0<t.size:=by
   have:=(List.getElem?_eq_some_iff.1 hb).1
   rwa [D8]at this
  obtain⟨a,ha⟩:=b3g t (B5 t l i e' ()) (i ()).toNat j0 hj
  obtain⟨b',hb',hsb'⟩:=c2 j0 a ha
  rw[h1 he]at hb'
  cases hb'
  rw[J6,he,ha,hsb'.d2R]
 ·rw[J6,c1 _ _ he,←J6]
  exact h2 he
theorem b2L {i:Th Int} {j:Nat} {as:List A} {t:RT} {l l':Th (List t.ty)} (hu:G4 i j as t l=some l') (ha:as.all A.isAtom=true) {i0:Th Int} {j0:Nat} {t3:RT} {l3:Th (List t3.ty)}
  (h:a0p t l i0 j0=some (.list t3 l3)):a0p t l' i0 j0=some (.list t3 l3)∧(l' ()).length=(l ()).length∧((i0 ()).toNat=(i ()).toNat→j0<j∨j+as.length≤j0):=by
 unfold G4 at hu
 split at hu
 ·rename_i hfit
  split at hu
  ·rename_i e' he'
   cases hu
   have hlen:(enc t fun _=>nth t (l ()) (i ()).toNat).length=t.size:=D8 _ _
   have hout:(i0 ()).toNat=(i ()).toNat→j0<j∨j+as.length≤j0:=fun he=>by
    by_cases hc:j0<j∨j+as.length≤j0
    ·exact hc
    ·exfalso
     obtain⟨d,rfl⟩ : ∃d,j0=j+d:=⟨j0-j,by omega⟩
     have hX:(putAt (enc t fun _=>nth t (l ()) (i ()).toNat) j as)[j+d]? = some (as[d]'(by omega)):=by
      rw[K9 _ _ _ (by omega) _ (by omega)]
      simp
     obtain⟨b,hb,hsb⟩:=(X1 _ _ _ he').get (j+d) hX
     have k1:((enc t e').map A.kd)[j+d]? = some none:=by
      rw[List.getElem?_map,hb]
      simp only[Option.map_some,Option.some.injEq]
      rw[←hsb.kd]
      exact A.c4r (List.all_eq_true.1 ha _ (List.getElem_mem _))
     have k2:((enc t fun _=>nth t (l ()) (i0 ()).toNat).map A.kd)[j+d]? = some (some t3):=by
      rw[List.getElem?_map]
      have:(enc t fun _=>nth t (l ()) (i0 ()).toNat)[j+d]? = some (.list t3 l3):=h
      rw[this]
      rfl
     rw[d3c t e' (fun _=>nth t (l ()) (i0 ()).toNat),k2]at k1
     cases k1
   refine⟨?_,by simp[B5],hout⟩
   by_cases hi:(i ()).toNat<(l ()).length
   ·refine b1i he' hi (fun he => ?_) fun _=>h
    rw[A5 _ _ _ (by omega) _ (hout he),←he]
    exact h
   ·rw[a9g hi]
    exact h
  ·cases hu
 ·cases hu
theorem b1R {t:RT} {l:Th (List t.ty)} {i0:Th Int} {j0:Nat} {r:List (Th Int×Nat)} {t2:RT} {l2:Th (List t2.ty)} (h:subA t l ((i0,j0)::r)=some (.list t2 l2)) :
  ∃t3 l3,a0p t l i0 j0=some (.list t3 l3)∧subA t3 l3 r=some (.list t2 l2):=by
 simp only[subA]at h
 split at h
 ·rename_i t3 l3 hc
  exact⟨t3,l3,hc,h⟩
 ·rename_i a hne hc
  split at h
  ·cases h
   exact(hne t2 l2 rfl).elim
  ·cases h
 ·cases h
theorem a5Q {i:Th Int} {j:Nat} {as:List A} {t:RT} {l l':Th (List t.ty)} (hu:G4 i j as t l=some l'):(l' ()).length=(l ()).length:=by
 unfold G4 at hu
 split at hu
 ·split at hu
  ·cases hu;simp[B5]
  ·cases hu
 ·cases hu
theorem b1O {f:(t:RT)→Th (List t.ty)→Option (Th (List t.ty))} {t:RT} {l l':Th (List t.ty)} {i1:Th Int} {j1:Nat} {r:List (Th Int×Nat)} (hu:updA f t l ((i1,j1)::r)=some l') :
  ∃t3 l3 l3' e',a0p t l i1 j1=some (.list t3 l3)∧updA f t3 l3 r=some l3'∧dec t ((enc t fun _=>nth t (l ()) (i1 ()).toNat).set j1 (.list t3 l3'))=some e'∧l'=B5 t l i1 e':=by
 simp only[updA]at hu
 split at hu
 ·rename_i t3 l3 h3
  split at hu
  ·rename_i l3' hl3
   split at hu
   ·rename_i e' he'
    cases hu
    exact⟨t3,l3,l3',e',h3,hl3,he',rfl⟩
   ·cases hu
  ·cases hu
 ·cases hu
theorem b5o {t:RT} {l:Th (List t.ty)} {i1:Th Int} {j1:Nat} {t3:RT} {l3 l3':Th (List t3.ty)} {e':Th t.ty} (hi:(i1 ()).toNat<(l ()).length) (h3:a0p t l i1 j1=some (.list t3 l3))
  (he:dec t ((enc t fun _=>nth t (l ()) (i1 ()).toNat).set j1 (.list t3 l3'))=some e') {i0:Th Int} {j0:Nat} {t4:RT} {l4:Th (List t4.ty)} (h:a0p t l i0 j0=some (.list t4 l4)) :
  ((i0 ()).toNat=(i1 ()).toNat∧j0=j1→a0p t (B5 t l i1 e') i0 j0=some (.list t3 l3'))∧(¬((i0 ()).toNat=(i1 ()).toNat∧j0=j1)→a0p t (B5 t l i1 e') i0 j0=some (.list t4 l4)):=by
 have hj:j1<(enc t fun _=>nth t (l ()) (i1 ()).toNat).length:=by rw[D8];exact a0e h3
 refine⟨fun hh=>b1i he hi (fun _ => ?_) (fun hne=>(hne hh.1).elim),fun hh=>b1i he hi (fun hq => ?_) fun _=>h⟩
 ·rw[hh.2,List.getElem?_set_self hj]
 ·rw[List.getElem?_set_ne (fun h0=>hh ⟨hq,h0.symm⟩),←hq]
  exact h
theorem b7s {i:Th Int} {j:Nat} {as:List A} (ha:as.all A.isAtom=true) : ∀(pre:List (Th Int×Nat)) (t:RT) (l l':Th (List t.ty)),updA (G4 i j as) t l pre=some l' →
  ∀(pre0:List (Th Int×Nat)) (t2:RT) (l2:Th (List t2.ty)),subA t l pre0=some (.list t2 l2) → ∃l2':Th (List t2.ty),subA t l' pre0=some (.list t2 l2')∧(l2' ()).length=(l2 ()).length
 |[],t,l,l',hu,pre0,t2,l2,hs=>by
  cases pre0 with
  |nil =>
   simp only[subA,Option.some.injEq,A.list.injEq]at hs
   obtain⟨rfl,hs⟩:=hs
   cases hs
   exact⟨l',rfl,a5Q hu⟩
  |cons x r0 =>
   obtain⟨i0,j0⟩:=x
   obtain⟨t3,l3,h3,hs'⟩:=b1R hs
   obtain⟨k1,_⟩:=b2L hu ha h3
   exact⟨l2,by simp only[subA,k1];exact hs',rfl⟩
 |(i1,j1)::r,t,l,l',hu,pre0,t2,l2,hs=>by
  obtain⟨t3,l3,l3',e',h3,hl3,he',rfl⟩:=b1O hu
  by_cases hi:(i1 ()).toNat<(l ()).length
  ·cases pre0 with
   |nil =>
    simp only[subA,Option.some.injEq,A.list.injEq]at hs
    obtain⟨rfl,hs⟩:=hs
    cases hs
    exact⟨_,rfl,by simp[B5]⟩
   |cons x r0 =>
    obtain⟨i0,j0⟩:=x
    obtain⟨t4,l4,h4,hs'⟩:=b1R hs
    obtain⟨c1,c2⟩:=b5o hi h3 he' h4
    by_cases hc:(i0 ()).toNat=(i1 ()).toNat∧j0=j1
    ·have h4':=h4
     rw[J6,hc.1,hc.2,←J6,h3]at h4'
     simp only[Option.some.injEq,A.list.injEq]at h4'
     obtain⟨rfl,h4'⟩:=h4'
     cases h4'
     obtain⟨l2',g1,g2⟩:=b7s ha r _ l3 l3' hl3 r0 t2 l2 hs'
     exact⟨l2',by simp only[subA,c1 hc];exact g1,g2⟩
    ·exact⟨l2,by simp only[subA,c2 hc];exact hs',rfl⟩
  ·rw[a9g hi]
   exact⟨l2,hs,rfl⟩
theorem a5c {om om':Nat→Option (Nat×Path)} {k:Nat} (hom : ∀b q,om b=some (k,q)→om' b=some (k,q)) : ∀(pre:List (Th Int×Nat)) (p:Path) (t:RT) (l:Th (List t.ty)) (v u:Value),OwnA om k w p v (.list t l) →
  (∀b q,om b=some (k,p++q)→w'.heap[b]? = w.heap[b]?)→C2 om k w t l v pre u→C2 om' k w' t l v pre u
 |[],_,_,_,_,_,_,_,h=>h
 |(i,j)::r,p,t,l,v,u,ho,hh,h=>by
  obtain⟨b,cap,q,h1,h2,h3,h4,u',t3,l3,h5,h6,h7⟩:=h
  rcases ho.list with ⟨hv,_⟩|⟨b',cap',cs,T,vs,as,hr,hb,hc⟩
  ·rw[hv]at h1;cases h1
  ·have hv:=hr.hv
   rw[h1]at hv
   simp only[Value.slice.injEq,Option.some.injEq,Addr.mk.injEq]at hv
   obtain⟨⟨rfl,_⟩,_,_⟩:=hv
   have hj:=a0e h6
   obtain⟨g1,g2⟩:=hr.hg _ _ h4 hj
   have h5':=h5
   rw[o9 hr.hh,g2]at h5'
   cases h5'
   have h6c:=h6
   rw[J6,g1]at h6c
   have h6':=Option.some.inj h6c
   have hcc:=hc _ _ h4 hj
   rw[h6']at hcc
   refine⟨b,cap,q,h1,hom _ _ h2,h3,h4,_,t3,l3,?_,h6,a5c hom r (p ++ [((i ()).toNat,j)]) t3 l3 _ u hcc (fun b' q' hb'=>hh b' _ (by simpa using hb')) h7⟩
   rw[World.cell?_of_block (hh b [] (by simpa using hb))]
   exact h5
theorem b7t {om om':Nat→Option (Nat×Path)} {k b cap:Nat} {i:Th Int} {j:Nat} {as:List A} {t2:RT} {l2:Th (List t2.ty)} (ha:as.all A.isAtom=true) (hom : ∀b q,om b=some (k,q)→om' b=some (k,q))
  (hheap : ∀b',b'≠b→w'.heap[b']? = w.heap[b']?) (hcell : ∀o,(o<(i ()).toNat * t2.size+j∨(i ()).toNat * t2.size+j+as.length≤o)→w'.cell? ⟨b,o,none⟩=w.cell? ⟨b,o,none⟩)
  (hir:(i ()).toNat<(l2 ()).length) (hfit:j+as.length≤t2.size) : ∀(pre:List (Th Int×Nat)) (p:Path) (t:RT) (l l':Th (List t.ty)) (v:Value),OwnA om k w p v (.list t l)→subA t l pre=some (.list t2 l2) →
  C2 om k w t l v pre (.slice (some ⟨b,0,none⟩) (l2 ()).length cap)→om b=some (k,p++E8 pre)→updA (G4 i j as) t l pre=some l' → ∀(pre0:List (Th Int×Nat)) (u:Value),C2 om k w t l v pre0 u→C2 om' k w' t l' v pre0 u
 |_,_,_,_,_,_,_,_,_,_,_,[],_,hm=>hm
 |[],p,t,l,l',v,ho,hs,hd,hb,hu,(i0,j0)::r0,u,hm=>by
  simp only[subA,Option.some.injEq,A.list.injEq]at hs
  obtain⟨rfl,hs⟩:=hs
  cases hs
  simp only[C2]at hd
  obtain⟨b0,cap0,q,h1,h2,h3,h4,u',t3,l3,h5,h6,h7⟩:=hm
  rw[←hd]at h1
  simp only[Value.slice.injEq,Option.some.injEq,Addr.mk.injEq]at h1
  obtain⟨⟨rfl,_⟩,_,rfl⟩:=h1
  obtain⟨k1,k2,k3⟩:=b2L hu ha h6
  have hj:=a0e h6
  have hlt:=a5Q hu
  rcases ho.list with ⟨hv,_⟩|⟨b',cap',cs,T,vs,as',hr,hb',hc⟩
  ·rw[hv]at hd;cases hd
  ·have hv:=hr.hv
   rw[←hd]at hv
   simp only[Value.slice.injEq,Option.some.injEq,Addr.mk.injEq]at hv
   obtain⟨⟨rfl,_⟩,_,_⟩:=hv
   obtain⟨g1,g2⟩:=hr.hg _ _ h4 hj
   have h5':=h5
   rw[o9 hr.hh,g2]at h5'
   cases h5'
   have h6c:=h6
   rw[J6,g1]at h6c
   have h6':=Option.some.inj h6c
   have hcc:=hc _ _ h4 hj
   rw[h6']at hcc
   refine⟨b,cap,q,by rw[k2];exact hd.symm,hom _ _ h2,h3,by rw[k2];exact h4,_,t3,l3,?_,k1,a5c hom r0 (p ++ [((i0 ()).toNat,j0)]) t3 l3 _ u hcc (fun b' q' hq'=>hheap b' fun hbb => ?_) h7⟩
   ·rw[hcell _ ?_]
    ·exact h5
    ·by_cases he:(i0 ()).toNat=(i ()).toNat
     ·rcases k3 he with h|h
      ·left;rw[he];omega
      ·right;rw[he];omega
     ·by_cases hlt:(i0 ()).toNat<(i ()).toNat
      ·left
       have:((i0 ()).toNat+1) * t.size≤(i ()).toNat * t.size:=Nat.mul_le_mul_right _ hlt
       rw[Nat.add_mul]at this
       omega
      ·right
       have:((i ()).toNat+1) * t.size≤(i0 ()).toNat * t.size:=Nat.mul_le_mul_right _ (by omega)
       rw[Nat.add_mul]at this
       omega
   ·rw[hbb,hb]at hq'
    simp[E8]at hq'
 |(i1,j1)::r,p,t,l,l',v,ho,hs,hd,hb,hu,(i0,j0)::r0,u,hm=>by
  obtain⟨t3,l3,l3',e',h3,hl3,he',rfl⟩:=b1O hu
  obtain⟨b1,cap1,q1,d1,d2,d3,d4,u1,t3',l3'',d5,d6,d7⟩:=hd
  rw[h3]at d6
  simp only[Option.some.injEq,A.list.injEq]at d6
  obtain⟨rfl,d6⟩:=d6
  cases d6
  obtain⟨b0,cap0,q,h1,h2,h3',h4,u',t4,l4,h5,h6,h7⟩:=hm
  rw[h1]at d1
  simp only[Value.slice.injEq,Option.some.injEq,Addr.mk.injEq]at d1
  obtain⟨⟨rfl,_⟩,_,rfl⟩:=d1
  obtain⟨c1,c2⟩:=b5o d4 h3 he' h6
  have hs':subA _ l3 r=some (.list t2 l2):=by simpa only[subA,h3]using hs
  rcases ho.list with ⟨hv,_⟩|⟨b',cap',cs,T,vs,as',hr,hb',hc⟩
  ·rw[hv]at h1;cases h1
  ·have hv:=hr.hv
   rw[h1]at hv
   simp only[Value.slice.injEq,Option.some.injEq,Addr.mk.injEq]at hv
   obtain⟨⟨rfl,_⟩,_,_⟩:=hv
   have hne:b0≠b:=fun hbb=>by
    rw[hbb,hb]at hb'
    simp[E8]at hb'
   have hj:=a0e h6
   obtain⟨g1,g2⟩:=hr.hg _ _ h4 hj
   have h5':=h5
   rw[o9 hr.hh,g2]at h5'
   cases h5'
   have h6c:=h6
   rw[J6,g1]at h6c
   have h6':=Option.some.inj h6c
   have hcc:=hc _ _ h4 hj
   rw[h6']at hcc
   have hcell0:w'.cell? ⟨b0,(i0 ()).toNat * t.size+j0,none⟩=w.cell? ⟨b0,(i0 ()).toNat * t.size+j0,none⟩:=World.cell?_of_block (hheap b0 hne)
   have hlen:(B5 t l i1 e' ()).length=(l ()).length:=by simp[B5]
   by_cases hcx:(i0 ()).toNat=(i1 ()).toNat∧j0=j1
   ·have h6x:=h6
    rw[J6,hcx.1,hcx.2,←J6,h3]at h6x
    simp only[Option.some.injEq,A.list.injEq]at h6x
    obtain⟨rfl,h6x⟩:=h6x
    cases h6x
    have hu1:u1=vs (i0 ()).toNat j0:=by
     rw[←hcx.1,←hcx.2,h5]at d5
     exact(Option.some.inj d5).symm
    rw[hu1]at d7
    refine⟨b0,cap0,q,by rw[hlen];exact h1,hom _ _ h2,h3',by rw[hlen];exact h4,_,_,l3',by rw[hcell0];exact h5,c1 hcx,
     b7t ha hom hheap hcell hir hfit r (p ++ [((i0 ()).toNat,j0)]) _ l3 l3' _ hcc hs' d7 ?_ hl3 r0 u h7⟩
    rw[hb,hcx.1,hcx.2]
    simp[E8]
   ·refine⟨b0,cap0,q,by rw[hlen];exact h1,hom _ _ h2,h3',by rw[hlen];exact h4,_,t4,l4,by rw[hcell0];exact h5,c2 hcx,
     a5c hom r0 (p ++ [((i0 ()).toNat,j0)]) t4 l4 _ u hcc (fun b' q' hq'=>hheap b' fun hbb => ?_) h7⟩
    rw[hbb,hb]at hq'
    simp only[E8,List.map_cons,Option.some.injEq,Prod.mk.injEq,true_and,List.append_assoc,List.append_cancel_left_eq,List.cons_append,List.nil_append,List.cons.injEq]at hq'
    exact hcx ⟨hq'.1.1.symm,hq'.1.2.symm⟩
theorem c2Y {hp0:Hp} (h:HR e hp w) {k ver g g' j:Nat} {pre:List (Th Int×Nat)} {i:Th Int} {v:Value} {t:RT} {l l':Th (List t.ty)} {us:List Value} {as:List A} {fl:List (Option Nat)} (F:Flt e hp0 hp w us as fl)
  (hc:CR e hp w v (.pp k ver g pre i j)) (hx:hp.get k=(ver,.row true g' t l)) (hg:pre = []∨g=g') (hu:updA (G4 i j as) t l pre=some l') :
  ∃b o cs T e',v = .pointer (some ⟨b,o,none⟩)∧w.heap[b]? = some (.cells cs T (0,0))∧o+us.length≤cs.size∧Stp e hp w e' (hp.set k (ver,.row true (if as.all A.isAtom then g' else g'+1) t l')) (wrote w b o cs us):=by
 obtain⟨t2,l2,hsub⟩:=b1N _ _ _ _ hu
 obtain⟨l2',hl2⟩:=b5p _ _ _ _ _ _ hu hsub
 obtain⟨b,cap,T,cs,vs,as0,R⟩:=d2u h hc hx hg hsub
 have hfit:=a5R hl2
 have hlen:=F.len
 have hbound:(i ()).toNat * t2.size+j+us.length≤cs.size:=a5l R.ilt R.row.hc (by omega) R.row.hs
 have hkf:some k ∉ fl:=fun hin=>by
  have:=(F.alive k hin).2
  rw[hx]at this
  cases this
 let o:=(i ()).toNat * t2.size+j
 let f:Nat→Path:=fun m=>E8 pre ++ [((i ()).toNat,j+m)]
 let om':=F5 e.om fl k f
 refine⟨b,o,cs,T,⟨e.S,om',e.E⟩,R.at_,R.row.hh,hbound,?_⟩
 have hheap : ∀b',b'≠b→(wrote w b o cs us).heap[b']? = w.heap[b']? := fun b' hne=>setRow_other w b b' _ hne
 have hk' : ∀b' q,e.om b'=some (k,q)→om' b'=some (k,q):=fun b' q hb=>a6H hb hkf
 have hkr:KR e hp w ⟨e.S,om',e.E⟩ (hp.set k (ver,.row true (if as.all A.isAtom then g' else g'+1) t l')) (wrote w b o cs us) k:=by
  by_cases hat:as.all A.isAtom=true
  ·rw[if_pos hat]
   have hch:=h.chs k
   rw[hx]at hch
   refine .keep ver g' t l l' hx (by rw[Tr.e8]) rfl (b7s hat pre t l l' hu) fun pre0 u hm => ?_
   refine b7t (om':=om') hat hk' hheap (fun o' ho' => ?_) R.ilt (by omega) pre [] t l l' _ hch hsub R.hdr (by simpa using R.own) hu pre0 u hm
   show(w.setRow b (putAt cs.toList o us).toArray).cell? _=_
   rw[o9 (setRow_heap w b cs _ T _ R.row.hh),o9 R.row.hh,C7,A5 _ _ _ (by simp;omega) _ (by rw[←hlen];exact ho')]
   simp
  ·rw[if_neg hat]
   exact KR.turn hx rfl (.row true true g' (g'+1) t l l' (Nat.lt_succ_self _))
 refine a0H (om':=om') h R.own R.row.hh hx (fun b' kq q' hb hne => ?_) (fun b' hb=>by simp[om',F5,hb]) (fun b' y hy => ?_) hkr ?_ (fun cs0 hc0=>by cases hc0)
 ·by_cases hin:some kq∈fl
  ·exact .inr (F.alive kq hin).2
  ·exact .inl (a6H hb hin)
 ·simp only[om',F5]at hy
  split at hy
  ·rename_i hb
   exact h.oOk b' _ hb
  ·cases hy
 ·show OwnA om' k (wrote w b o cs us) [] (e.E k) (.list t l')
  have hch:=h.chs k
  rw[hx]at hch
  refine b2x pre [] t l l' (e.E k) hch hsub R.hdr hu (fun l2'' hl2'' => ?_) fun b' q hb hq=>⟨by simpa using hk' b' q (by simpa using hb),hheap b' fun hbb => ?_⟩
  ·simp only[List.nil_append]
   refine c1w (us:=us) R.row (fun i' j' hi' hj' _=>R.els i' j' hi' hj') R.ilt hl2'' (by omega) (arr:=(putAt cs.toList o us).toArray) rfl (setRow_heap w b cs _ T _ R.row.hh) (hk' b _ R.own) (fun m u a hum ham => ?_) fun b' i' j' q hb hne=>⟨hk' b' _ hb,hheap b' fun hbb => ?_⟩
   ·have hml:m<fl.length:=by
     have:=(List.getElem?_eq_some_iff.1 hum).1
     rw[F.flen];exact this
    have hfm:=List.getElem?_eq_getElem hml
    have:=F.own m u a _ hum ham hfm
    cases hf:fl[m]with
    |none =>
     rw[hf]at this
     exact this _ _ _ _
    |some kd =>
     rw[hf]at this hfm
     refine OwnA.mono this _ fun b' r hb => ?_
     simp only[List.nil_append]at hb
     refine⟨b8f hb (F.pos hfm),hheap b' fun hbb => ?_⟩
     rw[hbb,R.own]at hb
     cases hb
     exact hkf (List.mem_of_getElem? hfm)
   ·rw[hbb,R.own]at hb
    simp at hb
  ·rw[hbb]at hb
   simp only[List.nil_append]at hb
   rw[R.own]at hb
   cases hb
   exact hq (List.prefix_refl _)
theorem c5T (h:HR e hp w) {k ver g g' j:Nat} {i:Th Int} {v:Value} {t:RT} {l l':Th (List t.ty)} {us:List Value} {as:List A} (hlen:as.length=us.length) (hrep : ∀(m:Nat) u a,us[m]? = some u→as[m]? = some a→Rep e.S w u a)
  (hc:CR e hp w v (.pp k ver g [] i j)) (hx:hp.get k=(ver,.row false g' t l)) (hu:G4 i j as t l=some l') :
  ∃b o cs T,v = .pointer (some ⟨b,o,none⟩)∧w.heap[b]? = some (.cells cs T (0,0))∧o+us.length≤cs.size∧Stp e hp w e (hp.set k (ver,.row false (g'+1) t l')) (wrote w b o cs us):=by
 simp only[CR]at hc
 rw[hx]at hc
 have hch:=h.chs k
 rw[hx]at hch
 obtain⟨b,len,cap,a1,a2,a3,a4⟩:=hc.2 rfl
 have hfit:=a5R hu
 rcases hch with ⟨hE,_⟩|⟨b',cap',cs,T,vs,as0,R,ho,hR⟩
 ·rw[hE]at a1;cases a1
 ·have hv':=R.hv
  rw[a1]at hv'
  simp only[Value.slice.injEq,Option.some.injEq,Addr.mk.injEq]at hv'
  obtain⟨⟨rfl,_⟩,rfl,rfl⟩:=hv'
  have hbound:(i ()).toNat * t.size+j+us.length≤cs.size:=a5l a3 R.hc (by omega) R.hs
  refine⟨b,(i ()).toNat * t.size+j,cs,T,a4 _ rfl,R.hh,hbound,?_⟩
  have hS : ∀b',e.S b'→e.S b'∧(wrote w b ((i ()).toNat * t.size+j) cs us).heap[b']? = w.heap[b']? := fun b' g1=>⟨g1,setRow_other w b b' _ fun g2=>by
   rw[g2]at g1
   rw[(h.sOk b g1).1]at ho
   cases ho⟩
  refine a0H (om':=e.om) h ho R.hh hx (fun b' k' q' g1 _ => .inl g1) (fun b' g1=>g1) h.oOk (KR.turn hx rfl (.row false false g' (g'+1) t l l' (Nat.lt_succ_self _))) ?_ (fun cs0 hc0=>by cases hc0)
  unfold G4 at hu
  rw[if_pos hfit]at hu
  split at hu
  ·rename_i e' he'
   ·cases hu
    have hsame:=X1 _ _ _ he'
    obtain⟨c1,c2⟩:=a6J a3 hsame
    have hlen0:(enc t fun _=>nth t (l ()) (i ()).toNat).length=t.size:=D8 _ _
    have hrow:=b2r (w':=wrote w b ((i ()).toNat * t.size+j) cs us) (arr:=(putAt cs.toList ((i ()).toNat * t.size+j) us).toArray) (l':=B5 t l i e' ()) R (i:=(i ()).toNat) (j:=j) (us:=us) a3 (by omega) rfl (setRow_heap w b cs _ T _ R.hh) F3 (as':=asOf t (B5 t l i e' ())) (fun i' j' _ hj'=>E7 hj')
    refine .inr ⟨b,cap,_,T,_,_,hrow,ho,fun i' j' hi' hj' => ?_⟩
    rw[F3]at hi'
    have hcell:=E7 (l:=B5 t l i e' ()) (i:=i') hj'
    split
    ·rename_i hcc
     obtain⟨rfl,g1,g2⟩:=hcc
     obtain⟨a1',m1,m2⟩:=c2 j' _ hcell
     have e1:j'=j+(j'-j):=by omega
     rw[e1,K9 _ _ _ (by omega) _ (by omega)]at m1
     have hu':us[j'-j]? = some (us.getD (j'-j) .nilFunc):=by simp[List.getD,show j'-j<us.length by omega]
     exact((hrep _ _ _ hu' m1).same m2).mono hS
    ·rename_i hcc
     by_cases he:i'=(i ()).toNat
     ·subst he
      have hout:j'<j∨j+us.length≤j':=by
       have : ¬(j≤j'∧j'<j+us.length):=fun hh=>hcc ⟨rfl,hh⟩
       omega
      obtain⟨a1',m1,m2⟩:=c2 j' _ hcell
      rw[A5 _ _ _ (by omega) _ (by omega)]at m1
      have m3:celA t (l ()) (i ()).toNat j'=some a1':=m1
      rw[(R.hg _ _ hi' hj').1]at m3
      cases m3
      exact((hR _ _ hi' hj').same m2).mono hS
     ·have m3:=c1 i' j' he
      rw[hcell,(R.hg _ _ hi' hj').1]at m3
      rw[Option.some.inj m3]
      exact(hR _ _ hi' hj').mono hS
  ·cases hu
end
end Go.Sx
namespace Go.Sx
section
variable {e e':Env} {hp hp':Hp} {w w':World} {L:Locks} {B:Base}
theorem b8v (h:HR e hp w) {k ver g g' j j' k2:Nat} {i i':Th Int} {v u:Value} {t t2:RT} {l l':Th (List t.ty)} {l2:Th (List t2.ty)} (hne:k2≠k) (hd:(hp.get k2).2 = .dead) (hown:OwnA e.om k2 w [] u (.list t2 l2))
  (hc:CR e hp w v (.pp k ver g [] i j)) (hx:hp.get k=(ver,.hole g' t l [] i' j')) (hj:j=j') (hi:i ()=i' ()) (hu:G4 i' j' [.list t2 l2] t l=some l') :
  ∃b o cs T e',v = .pointer (some ⟨b,o,none⟩)∧w.heap[b]? = some (.cells cs T (0,0))∧o + [u].length≤cs.size∧Stp e hp w e' (hp.set k (ver,.row true (g'+1) t l')) (wrote w b o cs [u]):=by
 subst hj
 simp only[CR]at hc
 rw[hx]at hc
 have hch:=h.chs k
 rw[hx]at hch
 obtain⟨b,len,cap,a1,a2,a3,a4⟩:=hc.2 rfl
 obtain⟨hi0,hh⟩:=hch
 obtain⟨b',cap',cs,T,vs,as0,R,ho,hi1,hj1,hels,h1⟩:=hh
 have hv':=R.hv
 rw[a1]at hv'
 simp only[Value.slice.injEq,Option.some.injEq,Addr.mk.injEq]at hv'
 obtain⟨⟨rfl,_⟩,rfl,rfl⟩:=hv'
 have hbound:(i ()).toNat * t.size+j + [u].length≤cs.size:=a5l a3 R.hc (by simp;omega) R.hs
 let o:=(i ()).toNat * t.size+j
 let fl:List (Option Nat) := [some k2]
 let f:Nat→Path:=fun m => [((i ()).toNat,j+m)]
 let om':=F5 e.om fl k f
 have hkf:some k ∉ fl:=by simp[fl];exact fun h=>hne h.symm
 refine⟨b,o,cs,T,⟨e.S,om',e.E⟩,a4 _ rfl,R.hh,hbound,?_⟩
 have hheap : ∀b',b'≠b→(wrote w b o cs [u]).heap[b']? = w.heap[b']? := fun b' hne=>setRow_other w b b' _ hne
 have hk' : ∀b' q,e.om b'=some (k,q)→om' b'=some (k,q):=fun b' q hb=>a6H hb hkf
 refine a0H (om':=om') h ho R.hh hx (fun b' kq q' hb hne => ?_) (fun b' hb=>by simp[om',F5,hb]) (fun b' y hy => ?_) (KR.turn hx rfl (.fill g' (g'+1) t l l' [] i' j (Nat.lt_succ_self _))) ?_ (fun cs0 hc0=>by cases hc0)
 ·by_cases hin:some kq∈fl
  ·simp only[fl,List.mem_singleton,Option.some.injEq]at hin
   subst hin
   exact .inr hd
  ·exact .inl (a6H hb hin)
 ·simp only[om',F5]at hy
  split at hy
  ·rename_i hb
   exact h.oOk b' _ hb
  ·cases hy
 ·show OwnA om' k (wrote w b o cs [u]) [] (e.E k) (.list t l')
  have hi2:(i' ()).toNat=(i ()).toNat:=by rw[hi]
  rw[hi2]at hels
  refine c1w (us := [u]) R (fun i1 j1 hi1' hj1' hne1=>hels i1 j1 hi1' hj1' (by
   rcases hne1 with h|h|h
   ·exact .inl (by rw[←hi2];exact h)
   ·exact .inr (by omega)
   ·exact .inr (by simp at h;omega))) (by rw[hi2];exact a3) hu rfl (arr:=(putAt cs.toList o [u]).toArray) (by rw[hi2]) (setRow_heap w b cs _ T _ R.hh) (by simpa using hk' b _ ho) (fun m u' a hum ham => ?_) fun b' i1 j1 q hb hne1=>⟨by simpa using hk' b' _ (by simpa using hb),hheap b' fun hbb => ?_⟩
  ·cases m with
   |succ m=>simp at hum
   |zero =>
    simp at hum ham
    subst hum;subst ham
    refine OwnA.mono hown _ fun b' r hb => ?_
    simp only[List.nil_append]at hb
    refine⟨?_,hheap b' fun hbb => ?_⟩
    ·have:=b8f (k:=k) (f:=f) hb (show pos fl k2=some 0 by simp[pos,fl])
     simpa [om',f,hi2]using this
    ·rw[hbb,ho]at hb
     cases hb
     exact hne rfl
  ·rw[hbb,ho]at hb
   simp at hb
theorem b3D (h:HR e hp w) {p:C} {v:Value} (hc:CR e hp w v p) {us:List Value} {xs:List C} (hus:CRs e hp w us xs) (h1 : ∀u∈us,one u) {K:Unit→Hp→Prop} (hm:(b8w p xs).wp L hp K) :
  ∃b o cs T e' hp' ,v = .pointer (some ⟨b,o,none⟩)∧w.heap[b]? = some (.cells cs T (0,0))∧o+us.length≤cs.size∧Stps e hp w e' hp' (wrote w b o cs us)∧K () hp':=by
 unfold b8w at hm
 cases p with
 |ptr k ver j =>
  replace hm:=M.u4 hm
  simp only[CR]at hc
  cases hx:hp.get k with
  |mk v' ch =>
   rw[hx]at hm hc
   cases ch with
   |var bx cs =>
    replace hm:=M.p4 hm;obtain⟨hb,hm⟩:=hm
    rw[Bool.and_eq_true]at hb
    obtain⟨hb,hfb⟩:=hb
    simp only[Bool.and_eq_true,beq_iff_eq,decide_eq_true_eq]at hb
    obtain⟨hv,hlen⟩:=hb
    subst hv
    obtain⟨_,hK⟩:=M.D3 hm
    obtain⟨b,off,cs0,T,g1,g2,g3,g4⟩:=c2X h hx hlen hus h1 (fun hbt=>by subst hbt;exact hfb)
    obtain⟨b',off',a1,a2⟩:=hc.2 rfl
    rw[g1]at a1
    cases a1
    exact⟨b,off+j,cs0,T,e,_,a2,g2,g3,.one g4,hK⟩
   |_=>exact hm.elim
 |pp k ver g pre i j =>
  replace hm:=M.u4 hm
  split at hm
  ·
   rename_i hhole
   split at hm
   ·rename_i k2 v2
    unfold d1U at hm
    replace hm:=M.u4 hm
    cases us with
    |nil=>simp only[CRs]at hus
    |cons u r =>
     cases r with
     |cons _ _=>simp only[CRs]at hus;exact hus.2.elim
     |nil =>
      simp only[CRs,CR]at hus
      cases hx2:hp.get k2 with
      |mk v2' ch2 =>
       rw[hx2]at hm hus
       cases ch2 with
       |row dp2 g2 t2 l2 =>
        cases dp2 with
        |false=>exact hm.elim
        |true =>
         replace hm:=M.p4 hm;obtain⟨hv2,hm⟩:=hm
         simp only[beq_iff_eq]at hv2
         subst hv2
         replace hm:=M.D3 hm;obtain⟨hk2,hm⟩:=hm
         have hne:k2≠k:=by
          rintro rfl
          rw[hx2]at hhole
          cases hhole
         have hst:=Q0 h k2 (v2+1) (by rw[hx2];exact Nat.lt_succ_self _) hk2
         replace hm:=M.u4 hm
         rw[Tr.j7 _ _ (Ne.symm hne)]at hm
         have hown:=h.chs k2
         rw[hx2]at hown
         have hu:=hus.1.2 rfl
         have hc':=(Stps.one hst).CR hc
         cases hx:hp.get k with
         |mk v' ch =>
          rw[hx]at hm
          cases ch with
          |hole g' t l pre' i' j' =>
           replace hm:=M.p4 hm;obtain⟨hb,hm⟩:=hm
           simp only[Bool.and_eq_true,beq_iff_eq,List.isEmpty_iff]at hb
           obtain⟨⟨rfl,rfl⟩,hjj⟩:=hb
           obtain⟨hob,hm⟩:=hm
           have hi:=hob.out
           split at hm
           ·rename_i l' hl'
            obtain⟨_,hK⟩:=M.D3 hm
            have hx':(hp.set k2 (v2+1,.dead)).get k=(ver,.hole g' t l [] i' j'):=by rw[Tr.j7 _ _ (Ne.symm hne)];exact hx
            obtain⟨b,o,cs,T,e',q1,q2,q3,q4⟩:=b8v (u:=u) hst.1 hne (by rw[Tr.e8]) (hu▸hown) hc' hx' hjj hi hl'
            exact⟨b,o,cs,T,e',_,q1,q2,q3,(Stps.one hst).trans (.one q4),hK⟩
           ·exact hm.elim
          |_=>exact hm.elim
       |_=>exact hm.elim
   ·exact hm.elim
  ·
   rw[M.wp_bind]at hm
   unfold c0P at hm
   replace hm:=M.u4 hm
   have fin : ∀dp (s:List (Option RT)) ,((E2 dp s xs).bind fun as=>putM k ver g pre i j dp as).wp L hp K →
     ∃b o cs T e' hp' ,v = .pointer (some ⟨b,o,none⟩)∧w.heap[b]? = some (.cells cs T (0,0))∧o+us.length≤cs.size∧Stps e hp w e' hp' (wrote w b o cs us)∧K () hp':=by
    intro dp s hm
    rw[M.wp_bind]at hm
    cases dp with
    |true =>
     obtain⟨hp1,as,fl,hst,hm,F⟩:=a6L xs s us hp _ h hus hm
     unfold putM at hm
     replace hm:=M.u4 hm
     have h':=hst.hr h
     cases hx:hp1.get k with
     |mk v' ch =>
      rw[hx]at hm
      cases ch with
      |row dp' g' t l =>
       replace hm:=M.p4 hm;obtain⟨hb,hm⟩:=hm
       simp only[Bool.and_eq_true,beq_iff_eq,Bool.or_eq_true,List.isEmpty_iff,and_true]at hb
       obtain⟨⟨rfl,hdp⟩,hg⟩:=hb
       subst hdp
       split at hm
       ·rename_i l' hl'
        obtain⟨_,hK⟩:=M.D3 hm
        obtain⟨b,o,cs,T,e',q1,q2,q3,q4⟩:=c2Y h' F (hst.CR hc) hx hg hl'
        exact⟨b,o,cs,T,e',_,q1,q2,q3,hst.trans (.one q4),hK⟩
       ·exact hm.elim
      |_=>exact hm.elim
    |false =>
     obtain⟨e1,hp1,as,hst,hm,hlen,hrep⟩:=b5i xs s us e hp _ h hus hm
     unfold putM at hm
     replace hm:=M.u4 hm
     have h':=hst.hr h
     cases hx:hp1.get k with
     |mk v' ch =>
      rw[hx]at hm
      cases ch with
      |row dp' g' t l =>
       replace hm:=M.p4 hm;obtain⟨hb,hm⟩:=hm
       simp only[Bool.and_eq_true,beq_iff_eq,Bool.or_eq_true,List.isEmpty_iff,Bool.false_eq_true,and_false,or_false]at hb
       obtain⟨⟨rfl,hdp⟩,rfl⟩:=hb
       subst hdp
       split at hm
       ·rename_i l' hl'
        obtain⟨_,hK⟩:=M.D3 hm
        obtain⟨b,o,cs,T,q1,q2,q3,q4⟩:=c5T h' hlen hrep (hst.CR hc) hx hl'
        exact⟨b,o,cs,T,_,_,q1,q2,q3,hst.trans (.one q4),hK⟩
       ·exact hm.elim
      |_=>exact hm.elim
   split at hm
   ·replace hm:=M.p4 hm;obtain⟨_,hm⟩:=hm
    split at hm
    ·exact fin _ _ hm
    ·exact hm.elim
   ·exact hm.elim
 |_=>exact hm.elim
end
section
variable {P:Program} {ctx:Ctx} {B:Base} {e:Env} {a:Act} {w:World} {σ : St} {o:Oper} {K:V→Hp→Prop} {next:Act→World→Prop} {Q:Exit→Act→World→Prop} {L:Locks}
theorem c5A (h:Rel B e w a.tmps σ) (hd : ∀d,o.dst=some d→d<a.tmps.size) (hn:Nx B a σ o K next) {e':Env} {w':World} {hp':Hp} (hrun:(execOp a.eval o).run P w = .ok .skip w')
  (hs:Stps e σ.hp w e' hp' w') (hK:K (.tup []) hp'):o.wp P a w next Q:=by
 unfold Oper.wp
 rw[hrun,Oper.upon_skip]
 have h':Rel B e' w' a.tmps ⟨σ.tm,hp',σ.up⟩:=hs.rel h
 exact hn undef (.tup []) hp' e' w' hK (h'.a3s (σ := ⟨σ.tm,hp',σ.up⟩) VR.undef hd)
theorem a5p (h:Rel B e w a.tmps σ) (hd : ∀d,o.dst=some d→d<a.tmps.size) (hn:Nx B a σ o K next) {v:Value} {x:V} {e':Env} {w':World} {hp':Hp} (hrun:(execOp a.eval o).run P w = .ok (.value v) w')
  (hs:Stps e σ.hp w e' hp' w') (hv:VR e' hp' w' v x) (hK:K x hp'):o.wp P a w next Q:=by
 unfold Oper.wp
 rw[hrun,Oper.upon_value]
 have h':Rel B e' w' a.tmps ⟨σ.tm,hp',σ.up⟩:=hs.rel h
 exact hn v x hp' e' w' hK (h'.a3s (σ := ⟨σ.tm,hp',σ.up⟩) hv hd)
theorem c6F (h:Rel B e w a.tmps σ) (hd : ∀d,o.dst=some d→d<a.tmps.size) (hn:Nx B a σ o K next) (hty:TyOk P ctx.ty) {T:TypeId} {x y:Operand} (ho:o.op = .store T x y) (hm:(opM ctx σ.tm o).wp L σ.hp K):o.wp P a w next Q:=by
 have hx:=p6 h x
 have hy:=p6 h y
 simp only[opM,ho]at hm
 split at hm
 ·rename_i p hp
  rw[hp]at hx
  simp only[VR]at hx
  replace hm:=M.p4 hm;obtain⟨hb,hm⟩:=hm
  simp only[Bool.and_eq_true,beq_iff_eq,bne_iff_ne,ne_eq]at hb
  obtain⟨⟨hkn,hlen⟩,hne⟩:=hb
  rw[M.wp_bind]at hm
  obtain⟨k1,k2⟩:=V.a5d hkn
  obtain⟨h1,h2⟩:=b1q hy k1 k2
  obtain⟨b,o0,cs,T0,e',hp',q1,q2,q3,q4,hK⟩:=b3D h.hr hx.1 h1 h2 hm
  have hT:ctx.ty.get T≠default:=fun hz=>hne (by rw[hz];rfl)
  obtain⟨inf,z,d,F⟩:=N6 ((hty T).resolve_left hT)
  have hst:=N1 (P:=P) q2 q3 h2
  have hsz:(a.eval y).cells.size=inf.size:=by
   have:=h1.length
   simp only[Array.length_toList]at this
   rw[this,hlen,F.size]
  refine c5A h hd hn ?_ q4 hK
  simp[execOp,ho,Instr.storeAt,Instr.sureAddr,q1,storeVar,sizeOf,typeInfo,F.info,hsz,hst]
 ·exact hm.elim
end
end Go.Sx
namespace Go.Sx
section
variable {P:Program} {ctx:Ctx} {B:Base} {e:Env} {a:Act} {w:World} {σ : St} {o:Oper} {K:V→Hp→Prop} {next:Act→World→Prop} {Q:Exit→Act→World→Prop} {L:Locks}
inductive EqC:Bool→Value→Value→Bool→Prop
 |int (k:IntKind) (m n:Int) (b:Bool):b=decide (m=n)→EqC true (.int k m) (.int k n) b
 |bool (x y b:Bool):b=(x==y)→EqC false (.bool x) (.bool y) b
def b1r (xs ys:Array Value) (o:Nat) (ks:List Bool) (b:Nat→Bool):Prop := ∀j k,ks[j]? = some k → ∃u v,xs[o+j]? = some u∧ys[o+j]? = some v∧EqC k u v (b (o+j))
theorem b3l (b:Nat→Bool) (o m n:Nat):(List.range' o (m+n)).all b=((List.range' o m).all b&&(List.range' (o+m) n).all b):=by
 have h:=List.range'_append (s:=o) (m:=m) (n:=n) (step:=1)
 rw[Nat.one_mul]at h
 rw[←h,List.all_append]
theorem b3k (b:Nat→Bool) (o n:Nat):(List.range' 0 n).all (fun j=>b (o+j))=(List.range' o n).all b:=by
 have:List.range' o n=(List.range' 0 n).map (o + ·):=by rw[List.map_add_range'];simp
 rw[this,List.all_map];rfl
def b5l (P:Program) (w:World) (d:Nat):Prop := ∀T ks,eqTy P d T=some ks → ∀(o:Nat) (xs ys:Array Value) (b:Nat→Bool),b1r xs ys o ks b →
 ∃x y,(part T xs o).run P w = .ok x w∧(part T ys o).run P w = .ok y w ∧ ∀d',d≤d'→(Op.equalIn d' T x y).run P w = .ok ((List.range' o ks.length).all b) w
theorem b6n {d d':Nat} (hd:d≤d') (ih:b5l P w d) : ∀(fs:List Field) (o:Nat) (ks:List Bool) (xs ys:Array Value) (b:Nat→Bool),eqFs (eqTy P d) fs o=some ks→b1r xs ys o ks b →
  (Op.eqFields d' xs ys fs).run P w = .ok ((List.range' o ks.length).all b) w
 |[],o,ks,xs,ys,b,h,_=>by
  simp only[eqFs,Option.some.injEq]at h
  subst h
  simp[Op.eqFields]
 |f::fs,o,ks,xs,ys,b,h,hE=>by
  simp only[eqFs]at h
  split at h
  ·cases h
  ·rename_i hne
   split at h
   ·rename_i ho
    split at h
    ·rename_i m hm
     split at h
     ·rename_i r hr
      obtain rfl:m++r=ks:=by simpa using h
      have ho':f.offset=o:=by simpa using ho
      obtain⟨x,y,h1,h2,h3⟩:=ih f.type m hm o xs ys b (fun j k hj=>hE j k (by
       rw[List.getElem?_append_left (by
        have:=(List.getElem?_eq_some_iff.1 hj).1
        exact this)]
       exact hj))
      have hrest:=b6n hd ih fs (o+m.length) r xs ys b hr (fun j k hj=>by
       have:=hE (m.length+j) k (by rw[List.getElem?_append_right (by omega)];simpa using hj)
       simpa [Nat.add_assoc]using this)
      have hne' : f.name ≠ "_" := by simpa using hne
      rw[List.length_append,b3l]
      simp only[Op.eqFields,hne',ne_eq,not_false_eq_true,if_true,Sem.run_bind,ho',h1,h2,h3 d' hd,Result.andThen_ok,Sem.run_ite,hrest]
      cases (List.range' o m.length).all b<;>simp
     ·cases h
    ·cases h
   ·cases h
theorem b1r.sub {xs ys:Array Value} {o:Nat} {ks:List Bool} {b:Nat→Bool} (h:b1r xs ys o ks b):b1r (xs.extract o (o+ks.length)) (ys.extract o (o+ks.length)) 0 ks (fun j=>b (o+j)):=by
 intro j k hj
 obtain⟨u,v,h1,h2,h3⟩:=h j k hj
 have hlt:=(List.getElem?_eq_some_iff.1 hj).1
 have hx:o+j<xs.size:=(Array.getElem?_eq_some_iff.1 h1).1
 have hy:o+j<ys.size:=(Array.getElem?_eq_some_iff.1 h2).1
 refine⟨u,v,?_,?_,by simpa using h3⟩
 ·rw[Array.getElem?_extract,if_pos (by omega)];simpa using h1
 ·rw[Array.getElem?_extract,if_pos (by omega)];simpa using h2
theorem b2q {d d' T:Nat} {fs:Array Field} (hd:d≤d') (ih:b5l P w d) (hu:P.underlying T=some (.struct fs)) (hs:P.stoodInHeld T=false) {ks:List Bool} (hf:eqFs (eqTy P d) fs.toList 0=some ks)
  {xs ys:Array Value} {b:Nat→Bool} (hE:b1r xs ys 0 ks b):(Op.equalIn (d'+1) T (.agg xs) (.agg ys)).run P w = .ok ((List.range' 0 ks.length).all b) w:=by
 have hfs:P.fieldsOf T=fs:=by simp[Program.fieldsOf,hu]
 rw[run_equalIn_agg w d' T xs ys (by rw[hfs];exact hu) hs,hfs]
 exact b6n hd ih _ _ _ _ _ _ hf hE
theorem b6m : ∀d,b5l P w d
 | 0=>fun T n h=>by simp[eqTy]at h
 |d+1=>fun T ks h o xs ys b hE=>by
  have ih:b5l P w d:=b6m d
  simp only[eqTy]at h
  split at h
  ·rename_i k hu
   obtain rfl : [true]=ks:=by simpa using h
   obtain⟨u,v,h1,h2,h3⟩:=hE 0 true rfl
   refine⟨u,v,run_part_plain w (by simp[Program.plainKey,hu]) (by simpa using h1),run_part_plain w (by simp[Program.plainKey,hu]) (by simpa using h2),fun d' hd' => ?_⟩
   obtain⟨d',rfl⟩ : ∃x,d'=x+1:=⟨d'-1,by omega⟩
   cases h3 with
   |int k' m n b' hb =>
    rw[run_equalIn_int w d' T k' k m n hu]
    simp only[Nat.add_zero]at hb
    simp[hb]
    rfl
  ·rename_i hu
   obtain rfl : [false]=ks:=by simpa using h
   obtain⟨u,v,h1,h2,h3⟩:=hE 0 false rfl
   refine⟨u,v,run_part_plain w (by simp[Program.plainKey,hu]) (by simpa using h1),run_part_plain w (by simp[Program.plainKey,hu]) (by simpa using h2),fun d' hd' => ?_⟩
   obtain⟨d',rfl⟩ : ∃x,d'=x+1:=⟨d'-1,by omega⟩
   cases h3 with
   |bool x y b' hb =>
    rw[run_equalIn_bool' w d' T x y hu]
    simp only[Nat.add_zero]at hb
    simp[hb]
  ·rename_i fs hu
   split at h
   ·cases h
   ·rename_i hs
    split at h
    ·rename_i n hn
     split at h
     ·rename_i hc
      obtain rfl:n=ks:=by simpa using h
      have hc':P.cellsOf T=n.length:=by simpa using hc
      obtain⟨i,hi⟩:=info_of_underlying hu
      have hp : ∀zs:Array Value,(part T zs o).run P w = .ok (.agg (zs.extract o (o+n.length))) w:=fun zs=>by
       simp[part,isAgg,run_underlying hu,run_sizeOf w hi,hc']
      refine⟨_,_,hp xs,hp ys,fun d' hd' => ?_⟩
      obtain⟨d',rfl⟩ : ∃x,d'=x+1:=⟨d'-1,by omega⟩
      rw[b2q (by omega) ih hu (by simpa using hs) hn hE.sub,b3k]
     ·cases h
    ·cases h
  ·cases h
def b8d (x:Bool) (b:Nat→Bool):Nat→Bool
 | 0=>x
 |j+1=>b j
theorem all_cons (x:Bool) (b:Nat→Bool) (n:Nat):(List.range' 0 (n+1)).all (b8d x b)=(x&&(List.range' 0 n).all b):=by
 rw[Nat.add_comm,b3l]
 have h3:=b3k (b8d x b) 1 n
 have h4:(fun j=>b8d x b (1+j))=b:=by funext j;rw[Nat.add_comm];rfl
 rw[h4]at h3
 rw[h3]
 simp[b8d]
theorem b1E {hp:Hp} : ∀(cs ds:List C) (f:Th Bool) (us vs:List Value),a0u cs ds=some f→CRs e hp w us cs→CRs e hp w vs ds →
  ∃b:Nat→Bool,(∀j k,(cs.map C.isInt)[j]? = some k → ∃u v,us[j]? = some u∧vs[j]? = some v∧EqC k u v (b j))∧(List.range' 0 cs.length).all b=f ():=by
 intro cs
 induction cs with
 |nil =>
  intro ds f us vs h _ _
  cases ds with
  |nil =>
   simp only[a0u,Option.some.injEq]at h
   subst h
   exact⟨fun _=>true,fun j k hj=>by simp at hj,rfl⟩
  |cons d ds=>simp[a0u]at h
 |cons c cs ih =>
  intro ds f us vs h hu hv
  have fin : ∀(d:C) (ds:List C) (g:Th Bool) (x:Bool) (k:Bool),a0u cs ds=some g→CRs e hp w us (c::cs)→CRs e hp w vs (d::ds)→c.isInt=k→(∀u v,CR e hp w u c→CR e hp w v d→EqC k u v x)→f ()=(x&&g ()) →
    ∃b:Nat→Bool,(∀j k,((c::cs).map C.isInt)[j]? = some k → ∃u v,us[j]? = some u∧vs[j]? = some v∧EqC k u v (b j))∧(List.range' 0 (c::cs).length).all b=f ():=by
   intro d ds g x k hg hu hv hk hx hf
   cases us with
   |nil=>simp only[CRs]at hu
   |cons u us=>cases vs with
    |nil=>simp only[CRs]at hv
    |cons v vs =>
     simp only[CRs]at hu hv
     obtain⟨b,h1,h2⟩:=ih ds g us vs hg hu.2 hv.2
     refine⟨b8d x b,fun j k' hj => ?_,by rw[List.length_cons,all_cons,h2,hf]⟩
     cases j with
     |zero =>
      simp only[List.map_cons,List.getElem?_cons_zero,Option.some.injEq]at hj
      subst hj
      exact⟨u,v,rfl,rfl,by rw[hk];exact hx u v hu.1 hv.1⟩
     |succ j =>
      obtain⟨u',v',q1,q2,q3⟩:=h1 j k' (by simpa using hj)
      exact⟨u',v',by simpa using q1,by simpa using q2,q3⟩
  unfold a0u at h
  split at h
  ·contradiction
  ·rename_i k x cs' k' y ds' heq
   cases heq
   split at h
   ·subst_vars
    split at h
    ·rename_i g hg
     simp only[Option.some.injEq]at h
     subst h
     refine fin _ _ g (decide (x ()=y ())) true hg hu hv rfl (fun u v h1 h2 => ?_) rfl
     simp only[CR]at h1 h2
     cases h1
     cases h2
     exact .int _ _ _ _ rfl
    ·cases h
   ·cases h
  ·rename_i x cs' y ds' heq
   cases heq
   split at h
   ·rename_i g hg
    simp only[Option.some.injEq]at h
    subst h
    refine fin _ _ g (x.val==y.val) false hg hu hv rfl (fun u v h1 h2 => ?_) rfl
    simp only[CR]at h1 h2
    cases h1
    cases h2
    exact .bool _ _ _ rfl
   ·cases h
  ·cases h
theorem c6M (h:Rel B e w a.tmps σ) (hd : ∀d,o.dst=some d→d<a.tmps.size) (hn:Nx B a σ o K next) {op:BinOp} {T T':TypeId} {x y:Operand} (ho:o.op = .binOp op T x y T') {i:TyI} (ht:a3h P T i=true) (he:i.eq=true) (hs:W0 i.d=true)
  {cs ds:List C} (hk:cs.map C.isInt=i.zero.map ZC.isInt) {f:Th Bool} (hf:a0u cs ds=some f) (hx:VR e σ.hp w (a.eval x) (.agg cs)) (hy:VR e σ.hp w (a.eval y) (.agg ds))
  (hm:(op = .eql∧K (.one (.att (.bool (.of f)))) σ.hp)∨(op = .neq∧K (.one (.att (.bool (.of fun _ => !f ())))) σ.hp)):o.wp P a w next Q:=by
 obtain⟨inf,z,d,F⟩:=N6 ht
 obtain⟨h1,h2⟩:=F.eq he
 simp only[VR]at hx hy
 obtain⟨xs,hxv,hxc,_⟩:=hx
 obtain⟨ys,hyv,hyc,_⟩:=hy
 obtain⟨b,q1,q2⟩:=b1E cs ds f _ _ hf hxc hyc
 rw[←hk]at h1
 have hE:b1r xs ys 0 (cs.map C.isInt) b:=fun j k hj=>by
  obtain⟨u,v,r1,r2,r3⟩:=q1 j k hj
  exact⟨u,v,by simpa using r1,by simpa using r2,by simpa using r3⟩
 have hr:(Op.equalIn 10000 T (.agg xs) (.agg ys)).run P w = .ok (f ()) w:=by
  rw[show(12:Nat)=11+1 from rfl,eqTy]at h1
  have hd:=b1d F.desc
  rw[hs]at hd
  split at h1
  ·rename_i hu
   rw[F.und]at hu
   cases hu
   cases hd
  ·rename_i hu
   rw[F.und]at hu
   cases hu
   cases hd
  ·rename_i fs hu
   split at h1
   ·cases h1
   ·rename_i hs
    split at h1
    ·rename_i n hfn
     split at h1
     ·obtain rfl:n=_:=by simpa using h1
      have:=b2q (w:=w) (d':=9999) (by omega) (b6m 11) hu (by simpa using hs) hfn hE
      rw[this,List.length_map,q2]
     ·cases h1
    ·cases h1
  ·cases h1
 have hg:=run_eqGuard_agg (w:=w) op T x y xs ys h2
 rcases hm with ⟨rfl,hK⟩|⟨rfl,hK⟩
 ·refine G6 h hd hn (v := .bool (f ())) ?_ (H4 (.of f)) hK
  simp[execOp,ho,hxv,hyv,hg,run_eql_struct,hr]
 ·refine G6 h hd hn (v := .bool (!f ())) ?_ (H4 (.of fun _ => !f ())) hK
  simp[execOp,ho,hxv,hyv,hg,run_neq_struct,hr]
theorem d2B (h:Rel B e w a.tmps σ) (hd : ∀d,o.dst=some d→d<a.tmps.size) (hn:Nx B a σ o K next) (hty:TyOk P ctx.ty) {op:BinOp} {T T':TypeId} {x y:Operand} (ho:o.op = .binOp op T x y T') (hm:(opM ctx σ.tm o).wp L σ.hp K):o.wp P a w next Q:=by
 have hx:=p6 h x
 have hy:=p6 h y
 simp only[opM,ho,binV]at hm
 split at hm
 ·rename_i k m k' n hx' hy'
  rw[hx']at hx
  rw[hy']at hy
  split at hm
  ·exact c6H h hd hn ho hx hy (.inl rfl) hm
  ·split at hm
   ·rename_i hkk
    exact c6H h hd hn ho hx hy (.inr hkk) hm
   ·exact hm.elim
 ·rename_i m n hx' hy'
  rw[hx']at hx
  rw[hy']at hy
  replace hm:=M.p4 hm
  obtain⟨hb,hm⟩:=hm
  have hT:P.underlying T=some .bool:=by
   have hi:(ctx.ty.get T).d = .bool:=by
    revert hb
    generalize (ctx.ty.get T).d=x
    cases x<;>simp[isBool]
   have ht:=hty.get (T:=T) (by rw[hi];simp)
   obtain⟨inf,z,d,F⟩:=N6 ht
   have hdd:=F.desc
   rw[hi]at hdd
   rw[F.und]
   cases d<;>simp[X0]at hdd ⊢
  split at hm
  ·exact c1B h hd hn ho hT hx hy (.inl ⟨rfl,hm⟩)
  ·exact c1B h hd hn ho hT hx hy (.inr ⟨rfl,hm⟩)
  ·exact hm.elim
 ·rename_i cs ds hx' hy'
  rw[hx']at hx
  rw[hy']at hy
  replace hm:=M.p4 hm
  obtain⟨hb,hm⟩:=hm
  simp only[Bool.and_eq_true,beq_iff_eq]at hb
  have ht:=hty.get (T:=T) (by
   intro hi
   rw[hi]at hb
   simp[W0]at hb)
  split at hm
  ·rename_i f hf
   exact c6M h hd hn ho ht hb.1.1 hb.1.2 hb.2 hf hx hy (.inl ⟨rfl,hm⟩)
  ·rename_i f hf
   exact c6M h hd hn ho ht hb.1.1 hb.1.2 hb.2 hf hx hy (.inr ⟨rfl,hm⟩)
  ·exact hm.elim
 ·exact hm.elim
end
end Go.Sx
namespace Go.Sx
section
variable {P:Program} {ctx:Ctx} {B:Base} {e:Env} {a:Act} {w:World} {σ : St} {o:Oper} {K:V→Hp→Prop} {next:Act→World→Prop} {Q:Exit→Act→World→Prop} {L:Locks} {hp:Hp}
inductive Lst (e:Env) (hp:Hp) (w:World) (v:Value) (t:RT) (l:Th (List t.ty)):C→Prop
 |att:Rep e.S w v (.list t l)→Lst e hp w v t l (.att (.list t l))
 |row (k ver g:Nat) (dp:Bool):hp.get k=(ver,.row dp g t l)→v=e.E k→ChR e hp w k (.row dp g t l)→Lst e hp w v t l (.own k ver)
 |ro (k ver:Nat):hp.get k=(ver,.ro t l)→v=e.E k→Rep e.S w v (.list t l)→Lst e hp w v t l (.own k ver)
 |pref (k ver g:Nat) (pre:List (Th Int×Nat)) (i:Th Int) (j:Nat) (t0:RT) (l0:Th (List t0.ty)):hp.get k=(ver,.row true g t0 l0)→subA t0 l0 (pre ++ [(i,j)])=some (.list t l) →
   C2 e.om k w t0 l0 (e.E k) (pre ++ [(i,j)]) v→OwnA e.om k w [] (e.E k) (.list t0 l0)→Lst e hp w v t l (.pref k ver g pre i j)
theorem U6 (h:HR e hp w) {c:C} {v:Value} (hc:CR e hp w v c) {K:((t:RT)×Th (List t.ty))→Hp→Prop} (hm:(a1q c).wp L hp K) : ∃t l,Lst e hp w v t l c∧K ⟨t,l⟩ hp:=by
 cases c with
 |att a =>
  cases a with
  |list t l =>
   simp only[CR]at hc
   simp only[a1q,M.wp]at hm
   exact⟨t,l,.att hc,hm⟩
  |_=>simp only[a1q,M.wp]at hm
 |own k ver =>
  simp only[CR]at hc
  have hch:=h.chs k
  unfold a1q at hm
  replace hm:=M.u4 hm
  split at hm
  ·rename_i v' dp g t l hx
   split at hm
   ·subst_vars
    rw[hx]at hch hc
    exact⟨t,l,.row k _ g dp hx (hc.2 rfl) hch,hm⟩
   ·exact hm.elim
  ·rename_i v' t l hx
   split at hm
   ·subst_vars
    rw[hx]at hch hc
    exact⟨t,l,.ro k _ hx (hc.2 rfl) (by rw[hc.2 rfl];exact hch),hm⟩
   ·exact hm.elim
  ·exact hm.elim
 |pref k ver g pre i j =>
  simp only[CR]at hc
  have hch:=h.chs k
  unfold a1q at hm
  replace hm:=M.u4 hm
  split at hm
  ·rename_i v' g' t0 l0 hx
   split at hm
   ·rename_i hh
    obtain⟨rfl,rfl⟩:=hh
    rw[hx]at hch hc
    split at hm
    ·rename_i t l hs
     exact⟨t,l,.pref k _ _ pre i j t0 l0 hx hs ((hc.2 rfl).2 _ _ rfl) hch,hm⟩
    ·exact hm.elim
   ·exact hm.elim
  ·exact hm.elim
 |_=>simp only[a1q,M.wp]at hm
structure HdrM (w:World) (t:RT) (n:Nat) (v:Value) (b off cap:Nat) (cs:Array Value) (T:Nat) (fz:Nat×Nat) (vs:Nat→Nat→Value):Prop where
 hv:v = .slice (some ⟨b,off,none⟩) n cap
 hh:w.heap[b]? = some (.cells cs T fz)
 hc:n≤cap
 hl:I2 t n
 hg : ∀i j,i<n→j<t.size→cs[off+i * t.size+j]? = some (vs i j)
 h1 : ∀i j,i<n→j<t.size→one (vs i j)
def Hdr (w:World) (t:RT) (n:Nat) (v:Value):Prop:=((∃a cap,v = .slice a 0 cap)∧n=0) ∨ ∃b off cap cs T fz vs,HdrM w t n v b off cap cs T fz vs
theorem Rep.hdr {S:Nat→Prop} {v:Value} {t:RT} {l:Th (List t.ty)} (h:Rep S w v (.list t l)):Hdr w t (l ()).length v:=by
 rcases h.list with ⟨h1,h2⟩|⟨b,off,cap,cs,T,fz,vs,as,h1,_,h3,h4,h5,h6,h7⟩|⟨h2,a,cap,h1⟩
 ·exact .inl ⟨⟨_,_,h1⟩,by rw[h2];rfl⟩
 rotate_left
 ·exact .inl ⟨⟨_,_,h1⟩,by rw[h2];rfl⟩
 ·exact .inr ⟨b,off,cap,cs,T,fz,vs,h1,h3,h4,h5,fun i j hi hj=>(h6 i j hi hj).2,fun i j hi hj=>(h7 i j hi hj).one⟩
theorem OwnA.hdr {om:Nat→Option (Nat×Path)} {k:Nat} {p:Path} {v:Value} {t:RT} {l:Th (List t.ty)} (h:OwnA om k w p v (.list t l)):Hdr w t (l ()).length v:=by
 rcases h.list with ⟨h1,h2⟩|⟨b,cap,cs,T,vs,as,R,_,h3⟩
 ·exact .inl ⟨⟨_,_,h1⟩,by rw[h2];rfl⟩
 ·exact .inr ⟨b,0,cap,cs,T,_,vs,R.hv,R.hh,R.hc,R.hl,fun i j hi hj=>by simpa using(R.hg i j hi hj).2,fun i j hi hj=>(h3 i j hi hj).one⟩
theorem Lst.hdr {v:Value} {t:RT} {l:Th (List t.ty)} {c:C} (h:Lst e hp w v t l c):Hdr w t (l ()).length v:=by
 cases h with
 |att h=>exact h.hdr
 |row k ver g dp hx hv hch =>
  rw[hv]
  cases dp with
  |true=>exact OwnA.hdr hch
  |false =>
   rcases hch with ⟨h1,h2⟩|⟨b,cap,cs,T,vs,as,R,_,h3⟩
   ·exact .inl ⟨⟨_,_,h1⟩,by rw[h2];rfl⟩
   ·exact .inr ⟨b,0,cap,cs,T,_,vs,R.hv,R.hh,R.hc,R.hl,fun i j hi hj=>by simpa using(R.hg i j hi hj).2,fun i j hi hj=>(h3 i j hi hj).one⟩
 |ro k ver hx hv hr=>exact hr.hdr
 |pref k ver g pre i j t0 l0 hx hs hm ho=>exact(a1k _ _ _ _ _ _ _ _ ho hs hm).hdr
theorem Hdr.len {t:RT} {n:Nat} {v:Value} (h:Hdr w t n v) : ∃b cap,v = .slice b n cap∧n≤cap∧n≤9223372036854775807:=by
 rcases h with ⟨⟨a,c,h1⟩,rfl⟩|⟨b,off,cap,cs,T,fz,vs,H⟩
 ·exact⟨a,c,h1,Nat.zero_le _,by omega⟩
 ·exact⟨_,cap,H.hv,H.hc,H.hl.le⟩
theorem Lst.len {v:Value} {t:RT} {l:Th (List t.ty)} {c:C} (h:Lst e hp w v t l c):(l ()).length≤9223372036854775807:=by
 obtain⟨_,_,_,_,h⟩:=h.hdr.len
 exact h
theorem d2z (h:Rel B e w a.tmps σ) (hd : ∀d,o.dst=some d→d<a.tmps.size) (hn:Nx B a σ o K next) (hty:TyOk P ctx.ty) {cl:Call} (ho:o.op = .call cl) (hb:cl.callee = .builtin .len) {T:Nat} {x:C}
  (hargs:cl.args.toList.map (ev σ.tm) = [.one x]) (hT:cl.argTypes.toList = [T]) (hs:isSlice (ctx.ty.get T).d=true) (hm:(lenV x).wp L σ.hp K):o.wp P a w next Q:=by
 obtain⟨y,hy,hyx⟩ : ∃y,cl.args.toList = [y]∧ev σ.tm y = .one x:=by
  cases hl:cl.args.toList with
  |nil=>rw[hl]at hargs;simp at hargs
  |cons y r=>cases r with
   |nil=>rw[hl]at hargs;simp at hargs;exact⟨y,rfl,hargs⟩
   |cons _ _=>rw[hl]at hargs;simp at hargs
 have hx:=p6 h y
 rw[hyx]at hx
 simp only[VR]at hx
 obtain⟨E,hE⟩ : ∃E,(ctx.ty.get T).d = .slice E:=by
  revert hs
  cases (ctx.ty.get T).d<;>simp[isSlice]
 obtain⟨inf,z,d,F⟩:=N6 (hty.get (T:=T) (by rw[hE];simp))
 have hd':=b1c F.desc hE
 have hu:=F.und
 rw[hd']at hu
 have fin : ∀(b:Option Addr) (n cap:Nat) (z:Th Int),a.eval y = .slice b n cap→n≤9223372036854775807→z ()=n→K (.one (.att (.int .i64 z))) σ.hp→o.wp P a w next Q:=by
  intro b n cap z hv hn' hz hK
  refine G6 h hd hn (v := .int .i64 (z ())) ?_ (N2 .i64 z (by rw[hz];simp[IntKind.min,IntKind.max,IntKind.signed,IntKind.bits];omega)) hK
  have ha:cl.args.map a.eval = #[a.eval y]:=by
   apply Array.ext';simp[hy]
  have ht:cl.argTypes = #[T]:=by apply Array.ext';simp[hT]
  have hl:(Builtin.len_ #[T] o.type #[.slice b n cap]).run P w = .ok (goInt n) w:=by
   simp[Builtin.len_,run_underlying hu]
  simp[execOp,ho,resolve,hb,ha,hv,ht,invoke,builtin,hl,hz,goInt]
 unfold lenV at hm
 split at hm
 ·simp only[CR]at hx
  exact fin none 0 0 (fun _=>0) hx.1 (by omega) rfl hm
 ·rw[M.wp_bind]at hm
  obtain⟨t,l,hl,hK⟩:=U6 h.hr hx.1 hm
  obtain⟨b,cap,hv,_,hle⟩:=hl.hdr.len
  exact fin b _ cap _ hv hle rfl hK
theorem a4t (hty:TyOk P ctx.ty) {T:Nat} {t:RT} (h:isRt (a2O ctx T) t=true) :
  ∃E inf z,P.underlying T=some (.slice E)∧P.info? E=some inf∧inf.size=t.size∧inf.bytes=t.bytes∧inf.zero=some z∧a4v (ctx.ty.get E).zero z.cells.toList=true∧z.cells.size=t.size ∧
   (ctx.ty.get T).d = .slice E∧(ctx.ty.get E).rt=some t∧a1y t.shape (ctx.ty.get E).zero=true∧(ctx.ty.get E).bytes=t.bytes∧t.O8=false:=by
 unfold a2O at h
 cases hd:(ctx.ty.get T).d with
 |slice E =>
  rw[hd]at h
  obtain⟨inf,z,d,F⟩:=N6 (hty.get (T:=T) (by rw[hd];simp))
  have hd':=b1c F.desc hd
  have hu:=F.und
  rw[hd']at hu
  have hrt:(ctx.ty.get E).rt=some t:=by
   simp only[isRt]at h
   split at h
   ·rename_i t' ht
    split at h
    ·rename_i he;rw[ht,he]
    ·cases h
   ·cases h
  have hE:ctx.ty.get E≠default:=fun hz=>by rw[hz]at hrt;cases hrt
  obtain⟨inf',z',d',F'⟩:=N6 ((hty E).resolve_left hE)
  obtain⟨r1,r2,r3,r4⟩:=F'.rt t hrt
  exact⟨E,inf',z',hu,F'.info,F'.size.trans r1.symm,F'.bytes.trans r2.symm,F'.zero,F'.zeroOk,F'.zsize.trans r1.symm,rfl,hrt,r3,r2.symm,r4⟩
 |_=>rw[hd]at h;cases h
theorem c8w (hty:TyOk P ctx.ty) {T:Nat} {t:RT} (h:c7H (a2O ctx T) t=true) :
  ∃E inf,P.underlying T=some (.slice E)∧P.info? E=some inf∧inf.size=t.size:=by
 unfold c7H at h
 split at h
 ·rename_i t' ht
  obtain⟨E,inf,z,hu,hi,hsz,_⟩:=a4t hty (T:=T) (t:=t') (by simp[ht,isRt])
  refine⟨E,inf,hu,hi,?_⟩
  split at h
  ·rename_i he;rw[hsz,he]
  ·simp only[Bool.and_eq_true,beq_iff_eq]at h
   rw[hsz,h.2]
 ·cases h
theorem b6k {T E b off n cap:Nat} {inf:TypeInfo} (hu:P.underlying T=some (.slice E)) (hi:P.info? E=some inf) {i:Int} (h0:0≤i) (h1:i<n) :
  (Instr.indexAt T (.slice (some ⟨b,off,none⟩) n cap) (.int .i64 i)).run P w = .ok (.pointer (some ⟨b,off+i.toNat * inf.size,none⟩)) w:=by
 simp[Instr.indexAt,run_underlying hu,asIntOf,h0,h1,sizeOf,typeInfo,hi,v7]
theorem c9r {k ver g:Nat} {pre:List (Th Int×Nat)} {i:Th Int} {j:Nat} {v:Value} (hne:pre ≠ []) (h1:ver≤(hp.get k).1) (h2:(hp.get k).1=ver→b8o g (hp.get k).2 ∧ ∀t l,(hp.get k).2 = .row true g t l →
  ∃t2 l2 b cap,subA t l pre=some (.list t2 l2)∧C2 e.om k w t l (e.E k) pre (.slice (some ⟨b,0,none⟩) (l2 ()).length cap)∧0≤i ()∧(i ()).toNat<(l2 ()).length∧v = .pointer (some ⟨b,(i ()).toNat * t2.size+j,none⟩)) :
  CR e hp w v (.pp k ver g pre i j):=by
 simp only[CR]
 refine⟨h1,fun hv => ?_⟩
 cases pre with
 |nil=>exact(hne rfl).elim
 |cons x r=>exact h2 hv
theorem b7x (h:Rel B e w a.tmps σ) (hd : ∀d,o.dst=some d→d<a.tmps.size) (hn:Nx B a σ o K next) {T:TypeId} {t:RT} {E:TypeId} {inf:TypeInfo} {x y:Operand} (ho:o.op = .indexAddr T x y) (hu:P.underlying T=some (.slice E)) (hi:P.info? E=some inf) (hsz:inf.size=t.size)
  {n:Th Int} (hyv:a.eval y = .int .i64 (n ())) {len b off cap:Nat} {x':C} (hb:0≤n ()∧n ()<(len:Int)) (hv:a.eval x = .slice (some ⟨b,off,none⟩) len cap)
  (hcr:CR e σ.hp w (.pointer (some ⟨b,off+(n ()).toNat * t.size,none⟩)) x') (hK:K (.one x') σ.hp):o.wp P a w next Q:=by
 refine G6 h hd hn (v := .pointer (some ⟨b,off+(n ()).toNat * t.size,none⟩)) ?_ (x := .one x') ?_ hK
 ·have:=b6k (P:=P) (w:=w) (b:=b) (off:=off) (cap:=cap) hu hi hb.1 hb.2
  simp[execOp,ho,hv,hyv,this,hsz]
 ·simp only[VR]
  exact⟨hcr,y8.D5 rfl⟩
theorem a4K.top {om:Nat→Option (Nat×Path)} {k:Nat} {v:Value} {t:RT} {l:Th (List t.ty)} : ∀ {r:List (Nat×Nat)} {i j:Nat},a4K om k w [] v t l r i j → ∃b cap,v = .slice (some ⟨b,0,none⟩) (l ()).length cap
 |[],_,_,⟨b,cap,_,_,_,_,R,_⟩=>⟨b,cap,R.hv⟩
 |_::_,_,_,⟨b,cap,_,_,_,_,_,_,R,_⟩=>⟨b,cap,R.hv⟩
theorem b0B (h:Rel B e w a.tmps σ) (hd : ∀d,o.dst=some d→d<a.tmps.size) (hn:Nx B a σ o K next) (hty:TyOk P ctx.ty) {T:TypeId} {x y:Operand} (ho:o.op = .indexAddr T x y) {c:C} {n:Th Int} (hxe:ev σ.tm x = .one c) (hye:ev σ.tm y = .one (.att (.int .i64 n)))
  (hm:(idxM ctx T c n).wp L σ.hp K):o.wp P a w next Q:=by
 have hx:=p6 h x
 have hy:=p6 h y
 rw[hxe]at hx
 rw[hye]at hy
 simp only[VR]at hx
 obtain⟨hyv,_⟩:=R6 hy
 unfold idxM at hm
 rw[M.wp_bind]at hm
 obtain⟨t,l,hl,hm⟩:=U6 h.hr hx.1 hm
 replace hm:=M.p4 hm
 obtain⟨hrt,hm⟩:=hm
 obtain⟨E,inf,hu,hi,hsz⟩:=c8w hty hrt
 obtain⟨hob,hm⟩:=hm
 have hb:0≤n ()∧n ()<((l ()).length:Int):=hob.out
 have fin : ∀(b off cap:Nat) (x':C),a.eval x = .slice (some ⟨b,off,none⟩) (l ()).length cap→CR e σ.hp w (.pointer (some ⟨b,off+(n ()).toNat * t.size,none⟩)) x'→K (.one x') σ.hp→o.wp P a w next Q :=
  fun b off cap x' hv hcr hK=>b7x h hd hn ho hu hi hsz hyv hb hv hcr hK
 have hlt:(n ()).toNat<(l ()).length:=by omega
 rcases hl.hdr with ⟨_,h0⟩|⟨b,off,cap,cs,T',fz,vs,H⟩
 ·omega
 ·cases hl with
  |att hr =>
   refine fin b off cap _ H.hv ?_ hm
   simp only[CR]
   exact⟨b,off,cap,by rw[←H.hv];exact hr,hb.1,hlt,by simp⟩
  |row k ver g dp hx' hv hch =>
   simp only at hm
   replace hm:=M.u4 hm
   rw[hx']at hm
   have hoff:off=0:=by
    rcases c5j hch with ⟨h1,_⟩|⟨b',cap',cs',T'',vs',as',R,_⟩
    ·rw[←hv,H.hv]at h1;cases h1
    ·have:=R.hv;rw[←hv,H.hv]at this;cases this;rfl
   subst hoff
   refine fin b 0 cap _ H.hv ?_ hm
   simp only[CR]
   rw[hx']
   refine⟨Nat.le_refl _,fun _=>⟨b,_,cap,by rw[←hv];exact H.hv,hb.1,hlt,fun sz hsz' => ?_⟩⟩
   simp only[Ch.size?,Option.some.injEq]at hsz'
   subst hsz'
   simp
  |ro k ver hx' hv hr =>
   simp only at hm
   replace hm:=M.u4 hm
   rw[hx']at hm
   refine fin b off cap _ H.hv ?_ hm
   simp only[CR]
   exact⟨b,off,cap,by rw[←H.hv];exact hr,hb.1,hlt,by simp⟩
  |pref k ver g pre i j t0 l0 hx' hs hmh hown =>
   have hown':=a1k _ _ _ _ _ _ _ _ hown hs hmh
   have hoff:off=0:=by
    rcases hown'.list with ⟨h1,_⟩|⟨b',cap',cs',T'',vs',as',R,_⟩
    ·rw[H.hv]at h1;cases h1
    ·have:=R.hv;rw[H.hv]at this;cases this;rfl
   subst hoff
   refine fin b 0 cap _ H.hv (c9r (by simp) (by rw[hx'];exact Nat.le_refl _) fun _ => ?_) hm
   rw[hx']
   refine⟨Nat.le_refl _,fun t1 l1 hr => ?_⟩
   simp only[Ch.row.injEq]at hr
   obtain⟨_,_,rfl,hr⟩:=hr
   cases hr
   exact⟨t,l,b,cap,hs,by rw[←H.hv];exact hmh,hb.1,hlt,by simp⟩
theorem c6I (h:Rel B e w a.tmps σ) (hd : ∀d,o.dst=some d→d<a.tmps.size) (hn:Nx B a σ o K next) (hty:TyOk P ctx.ty) {T:TypeId} {x y:Operand} (ho:o.op = .indexAddr T x y) (hm:(opM ctx σ.tm o).wp L σ.hp K):o.wp P a w next Q:=by
 have hx:=p6 h x
 have hy:=p6 h y
 simp only[opM,ho]at hm
 split at hm
 ·rename_i c n hxe hye
  unfold idxH at hm
  split at hm
  ·rename_i k ver
   replace hm:=M.u4 hm
   split at hm
   ·rename_i v' g t l pre i' j' hch
    replace hm:=M.p4 hm
    obtain⟨hg,hm⟩:=hm
    simp only[Bool.and_eq_true,beq_iff_eq]at hg
    obtain⟨rfl,hrt⟩:=hg
    obtain⟨E,inf,z,hu,hi,hsz,_⟩:=a4t hty hrt
    obtain⟨hob,hm⟩:=hm
    have hb:0≤n ()∧n ()<((l ()).length:Int):=hob.out
    rw[hxe]at hx
    rw[hye]at hy
    simp only[VR]at hx
    obtain⟨hyv,_⟩:=R6 hy
    have hc:=h.hr.chs k
    rw[hch]at hc
    obtain⟨b,cap,hv⟩:=hc.2.top
    have hx1:=hx.1
    simp only[CR]at hx1
    have hv':a.eval x=e.E k:=hx1.2 (by rw[hch])
    rw[hv]at hv'
    refine b7x h hd hn ho hu hi hsz hyv hb hv' ?_ hm
    simp only[CR]
    rw[hch]
    refine⟨Nat.le_refl _,fun _=>⟨b,_,cap,hv,hb.1,by omega,fun sz hsz' => ?_⟩⟩
    simp only[Ch.size?,Option.some.injEq]at hsz'
    subst hsz'
    simp
   ·exact b0B h hd hn hty ho hxe hye hm
  ·exact b0B h hd hn hty ho hxe hye hm
 ·exact hm.elim
theorem c7u (t:RT) (l:List t.ty) (x y i:Nat) (h:i<y-x) (hb:y≤l.length):nth t ((l.take y).drop x) i=nth t l (x+i):=by
 rw[l7 t _ i (by simp;omega),l7 t l (x+i) (by omega)]
 simp
theorem Rep.part {S:Nat→Prop} {v:Value} {t:RT} {l:Th (List t.ty)} (h:Rep S w v (.list t l)) {x y:Nat} (hxy:x≤y) (hy:y≤(l ()).length) (m:Th (List t.ty)) (hm:m ()=((l ()).take y).drop x) :
  ∃ba n cap,v = .slice ba n cap∧n=(l ()).length∧n≤cap∧Rep S w (sliced ba x y cap t.size) (.list t m):=by
 have hml:(m ()).length=y-x:=by rw[hm];simp;omega
 rcases h.list with ⟨h1,h2⟩|⟨b,off,cap,cs,T,fz,vs,as,h1,h2,h3,h4,h5,h6,h7⟩|⟨h2,a,cap,h1⟩
 rotate_left
 rotate_left
 ·have h0:(l ()).length=0:=by rw[h2];rfl
  refine⟨some a,0,cap,h1,h0.symm,Nat.zero_le _,?_⟩
  obtain rfl:y=0:=by omega
  obtain rfl:x=0:=by omega
  have he:m () = []:=List.eq_nil_of_length_eq_zero hml
  have hsl : ∃a',sliced (some a) 0 0 cap t.size = .slice (some a') 0 cap:=by simp only[sliced];split<;>exact⟨_,rfl⟩
  obtain⟨a',hsl⟩:=hsl
  rw[hsl]
  exact .emp t m a' cap he
 ·have h0:(l ()).length=0:=by rw[h2];rfl
  refine⟨none,0,0,h1,h0.symm,Nat.le_refl _,?_⟩
  obtain rfl:y=0:=by omega
  obtain rfl:x=0:=by omega
  exact .nil t m (List.eq_nil_of_length_eq_zero hml)
 ·refine⟨_,_,cap,h1,rfl,h4,?_⟩
  have hm':(m ()).length≤cap-x:=by omega
  have hlo:I2 t (m ()).length:=⟨Nat.le_trans (Nat.mul_le_mul_right _ (by omega)) h5.1,by have:=h5.2;omega⟩
  by_cases hc:cap=x
  ·have h0:m () = []:=List.eq_nil_of_length_eq_zero (by omega)
   have:=Rep.row (S:=S) t m b off (cap-x) cs T fz vs as h2 h3 hm' hlo (fun i j hi _=>by rw[h0]at hi;simp at hi) (fun i j hi _=>by rw[h0]at hi;simp at hi)
   rw[hml]at this
   simpa [sliced,hc]using this
  ·have:=Rep.row (S:=S) t m b (off+x * t.size) (cap-x) cs T fz (fun i j=>vs (x+i) j) (fun i j=>as (x+i) j) h2 h3 hm' hlo (fun i j hi hj=>by
    obtain⟨g1,g2⟩:=h6 (x+i) j (by omega) hj
    refine⟨?_,?_⟩
    ·unfold celA at g1 ⊢
     rw[hm,c7u t (l ()) x y i (by omega) hy]
     exact g1
    ·rw[←g2]
     congr 1
     rw[Nat.add_mul]
     omega) (fun i j hi hj=>h7 (x+i) j (by omega) hj)
   rw[hml]at this
   simpa [sliced,hc,v7]using this
def isRo:Ch→Prop
 | .ro _ _=>True
 |_=>False
theorem S3 : ∀(cs:List C) (e:Env) (hp:Hp) (K:Unit→Hp→Prop),HR e hp w→(W6 cs).wp L hp K →
  ∃e' hp',Stps e hp w e' hp' w∧K () hp'∧(∀k v,.own k v∈cs→isRo (hp'.get k).2)∧(∀k v g pre i j,.pref k v g pre i j ∉ cs) ∧ ∀k,isRo (hp.get k).2→isRo (hp'.get k).2
 |[],e,hp,K,_,hm=>⟨e,hp,.refl _ _ _,hm,fun k v hk=>by simp at hk,by simp,fun _ h=>h⟩
 |c::cs,e,hp,K,h,hm=>by
  unfold W6 at hm
  split at hm
  ·contradiction
  ·rename_i k v cs' heq
   cases heq
   replace hm:=M.u4 hm
   split at hm
   ·rename_i v' dp g t l hx
    split at hm
    ·subst_vars
     replace hm:=M.D3 hm
     obtain⟨_,hm⟩:=hm
     have hst:=a1d h hx
     obtain⟨e',hp',h1,h2,h3,h5,h4⟩:=S3 cs _ _ _ hst.1 hm
     refine⟨e',hp',(Stps.one hst).trans h1,h2,fun k' v'' hk' => ?_,by simpa using h5,fun k' hk'=>h4 k' ?_⟩
     ·rcases List.mem_cons.1 hk' with hk'|hk'
      ·cases hk'
       exact h4 _ (by rw[Tr.e8];trivial)
      ·exact h3 k' v'' hk'
     ·rw[Tr.W4]
      split
      ·trivial
      ·exact hk'
    ·exact hm.elim
   ·rename_i v' t l hx
    split at hm
    ·obtain⟨e',hp',h1,h2,h3,h5,h4⟩:=S3 cs _ _ _ h hm
     refine⟨e',hp',h1,h2,fun k' v'' hk' => ?_,by simpa using h5,h4⟩
     rcases List.mem_cons.1 hk' with hk'|hk'
     ·cases hk'
      exact h4 _ (by rw[hx];trivial)
     ·exact h3 k' v'' hk'
    ·exact hm.elim
   ·exact hm.elim
  ·exact hm.elim
  ·rename_i hne hnp heq
   cases heq
   obtain⟨e',hp',h1,h2,h3,h5,h4⟩:=S3 cs _ _ _ h hm
   refine⟨e',hp',h1,h2,fun k' v'' hk' => ?_,fun k' v' g pre i j hk' => ?_,h4⟩
   rotate_left
   ·rcases List.mem_cons.1 hk' with hk'|hk'
    ·exact(hnp _ _ _ _ _ _ hk'.symm).elim
    ·exact h5 _ _ _ _ _ _ hk'
   rcases List.mem_cons.1 hk' with hk'|hk'
   ·exact(hne _ _ hk'.symm).elim
   ·exact h3 k' v'' hk'
def c9s (v:Option Value) (n:Int) (d:Int):Prop:=(v=none∧n=d)∨v=some (.int .i64 n)
theorem a8w (h:Rel B e w a.tmps σ) {lo:Option Operand} {d n:Th Int} (hb:a1I σ.tm lo d=some n):c9s (lo.map a.eval) (n ()) (d ()):=by
 unfold a1I at hb
 split at hb
 ·cases hb
  exact .inl ⟨rfl,rfl⟩
 ·rename_i x
  have hx:=p6 h x
  split at hb
  ·rename_i m hx'
   cases hb
   rw[hx']at hx
   exact .inr (by simp[(R6 hx).1])
  ·cases hb
theorem b3W {T E len cap:Nat} {ba:Option Addr} {inf:TypeInfo} (hu:P.underlying T=some (.slice E)) (hi:P.info? E=some inf) {lo hi':Option Value} {x y:Int} (hlo:c9s lo x 0) (hhi:c9s hi' y len) (h0:0≤x) (h1:x≤y) (h2:y≤len) (hc:len≤cap) :
  (Instr.sliceAt T (.slice ba len cap) lo hi' none).run P w = .ok (sliced ba x.toNat y.toNat cap inf.size) w:=by
 have hy:(y.toNat:Int)=y:=by omega
 have hyc:y≤(cap:Int):=by omega
 have hy0:0≤y:=by omega
 rcases hlo with ⟨rfl,rfl⟩|rfl<;>rcases hhi with ⟨rfl,rfl⟩|rfl <;>
  simp[Instr.sliceAt,Instr.slice,run_underlying hu,Instr.sliceBounds,run_sliceBound,sliced,sizeOf,typeInfo,hi,h0,h1,hy,hyc,hy0]
theorem c6G (h:Rel B e w a.tmps σ) (hd : ∀d,o.dst=some d→d<a.tmps.size) (hn:Nx B a σ o K next) (hty:TyOk P ctx.ty) {T:TypeId} {x:Operand} {lo hi mx:Option Operand} (ho:o.op = .slice T x lo hi mx) (hm:(opM ctx σ.tm o).wp L σ.hp K):o.wp P a w next Q:=by
 have hx:=p6 h x
 simp only[opM,ho]at hm
 split at hm
 ·exact hm.elim
 ·split at hm
  ·rename_i c hxe
   rw[hxe]at hx
   simp only[VR]at hx
   rw[M.wp_bind]at hm
   obtain⟨e',hp',hst,hm,hro,hnp,_⟩:=S3 [c] _ _ _ h.hr hm
   have hc':=hst.CR hx.1
   rw[M.wp_bind]at hm
   obtain⟨t,l,hl,hm⟩:=U6 (hst.hr h.hr) hc' hm
   simp only at hm
   split at hm
   ·rename_i p q hp hq
    replace hm:=M.p4 hm
    obtain⟨hrt,hm⟩:=hm
    obtain⟨E,inf,z,hu,hi',hsz,_⟩:=a4t hty hrt
    obtain⟨hob,hm⟩:=hm
    have hb:0≤p ()∧p ()≤q ()∧q ()≤((l ()).length:Int):=hob.out
    have hrep:Rep e'.S w (a.eval x) (.list t l):=by
     cases hl with
     |att h=>exact h
     |row k ver g dp hx' _ _ =>
      have:=hro k ver (List.mem_singleton.2 rfl)
      rw[hx']at this
      exact this.elim
     |ro k ver _ _ h=>exact h
     |pref=>exact(hnp _ _ _ _ _ _ (List.mem_singleton.2 rfl)).elim
    obtain⟨ba,n,cap,hv,hnl,hnc,hrp⟩:=hrep.part (x:=(p ()).toNat) (y:=(q ()).toNat) (by omega) (by omega) (fun _=>((l ()).take (q ()).toNat).drop (p ()).toNat) rfl
    have hlo:=a8w h hp
    have hhi:=a8w h hq
    subst hnl
    refine a5p h hd hn (v:=sliced ba (p ()).toNat (q ()).toNat cap t.size) ?_ hst ?_ hm
    ·have:=b3W (P:=P) (w:=w) (ba:=ba) hu hi' hlo hhi hb.1 hb.2.1 hb.2.2 hnc
     simp[execOp,ho,hv,this,hsz]
    ·simp only[VR,CR]
     exact⟨hrp,y8.D5 hrp.one⟩
   ·exact hm.elim
  ·exact hm.elim
end
end Go.Sx
namespace Go.Sx
section
variable {P:Program} {ctx:Ctx} {B:Base} {e:Env} {a:Act} {w w':World} {L:Locks} {hp:Hp}
def Env.mv (e:Env) (key:Nat) (ob:Option Nat) (v:Value) (g:Nat→Path→Option Path):Env where
 S:=e.S
 om:=fun b'=>if ob=some b' then some (key,[])else match e.om b' with
  |some (k,q)=>match g k q with
   |some p=>some (key,p)
   |none=>if k=key then none else some (k,q)
  |none=>none
 E:=fun k=>if k=key then v else e.E k
theorem Env.b4C {e:Env} {key b:Nat} {v:Value} {g:Nat→Path→Option Path}:(e.mv key (some b) v g).om b=some (key,[]):=by simp[Env.mv]
theorem Env.a4E {e:Env} {key b k:Nat} {ob:Option Nat} {v:Value} {g:Nat→Path→Option Path} {q p:Path} (hne:ob≠some b) (h:e.om b=some (k,q)) (hg:g k q=some p):(e.mv key ob v g).om b=some (key,p):=by
 simp[Env.mv,hne,h,hg]
theorem Y7 (h:HR e hp w) (key:Nat) (v:Value) (x:Nat×Ch) (ob:Option Nat) (g:Nat→Path→Option Path) (hv:(hp.get key).1<x.1) (hk:keeps (hp.get key) x=true)
  (hg : ∀k q p,g k q=some p→(hp.get k).2 = .dead) (hos:w'.os=w.os) (htp:w'.tape=w.tape) (hou:w'.output=w.output) (hsz:w.heap.size≤w'.heap.size) (hob : ∀b,ob=some b→w.heap.size≤b∧b<w'.heap.size)
  (hold : ∀b,b<w.heap.size→w'.heap[b]? = w.heap[b]? ∨ ∃k q,e.om b=some (k,q)∧(hp.get k).2 = .dead) (hch:SR e hp w (e.mv key ob v g) (hp.set key x) w'→ChR (e.mv key ob v g) (hp.set key x) w' key x.2) :
  Stp e hp w (e.mv key ob v g) (hp.set key x) w':=by
 have hlive : ∀b k q,k≠key→(hp.get k).2 ≠ .dead→e.om b=some (k,q)→(e.mv key ob v g).om b=some (k,q)∧w'.heap[b]? = w.heap[b]? := fun b k q hne hd hb=>by
  have hlt:=h.oOk b _ hb
  have hnb:ob≠some b:=fun hh=>by have:=(hob b hh).1;omega
  have hgn:g k q=none:=by
   cases hgq:g k q with
   |none=>rfl
   |some p=>exact(hd (hg k q p hgq)).elim
  refine⟨by simp[Env.mv,hnb,hb,hgn,hne],?_⟩
  rcases hold b hlt with h1|⟨k',q',h1,h2⟩
  ·exact h1
  ·rw[hb]at h1
   cases h1
   exact(hd h2).elim
 have hSb : ∀b,e.S b→w'.heap[b]? = w.heap[b]? ∧ ob≠some b:=fun b hb=>by
  obtain⟨h1,h2⟩:=h.sOk b hb
  refine⟨?_,fun hh=>by have:=(hob b hh).1;omega⟩
  rcases hold b h2 with h3|⟨k',q',h3,_⟩
  ·exact h3
  ·rw[h1]at h3;cases h3
 have hsr:SR e hp w (e.mv key ob v g) (hp.set key x) w':=by
  refine⟨fun b hb=>⟨hb,(hSb b hb).1⟩,fun k => ?_⟩
  by_cases hkk:k=key
  ·subst hkk
   exact .bump (by rw[Tr.e8];exact hv)
  ·by_cases hd:(hp.get k).2 = .dead
   ·refine .upd (by rw[Tr.j7 _ _ hkk]) (by simp[Env.mv,hkk]) ?_
    rw[Tr.j7 _ _ hkk,hd]
    exact .dead _
   ·exact .same (Tr.j7 _ _ hkk) (by simp[Env.mv,hkk]) fun b q hb=>hlive b k q hkk hd hb
 refine⟨h.step hsr (fun k => ?_) (fun b hb => ?_) (fun b y hb => ?_),hsr,⟨hos,htp,hou,fun _ h => .inl h,hsz,fun b hb ho => ?_,fun b k off n cs arr T h1 h2 h3 h4 h5 => ?_⟩⟩
 ·by_cases hkk:k=key
  ·subst hkk
   right
   rw[Tr.e8]
   exact hch hsr
  ·by_cases hd:(hp.get k).2 = .dead
   ·right
    rw[Tr.j7 _ _ hkk,hd]
    trivial
   ·left
    exact⟨Tr.j7 _ _ hkk,by simp[Env.mv,hkk],fun b q hb=>hlive b k q hkk hd hb⟩
 ·have h1:=h.sOk b hb
  refine⟨?_,Nat.lt_of_lt_of_le h1.2 hsz⟩
  simp[Env.mv,(hSb b hb).2,h1.1]
 ·simp only[Env.mv]at hb
  split at hb
  ·rename_i hh
   exact(hob b hh).2
  ·split at hb
   ·rename_i k q ho
    exact Nat.lt_of_lt_of_le (h.oOk b _ ho) hsz
   ·cases hb
 ·have hnb:ob≠some b:=fun hh=>by have:=(hob b hh).1;omega
  refine⟨?_,by simp[Env.mv,hnb,ho]⟩
  rcases hold b hb with h3|⟨k',q',h3,_⟩
  ·exact h3
  ·rw[ho]at h3;cases h3
 ·have hkk:k≠key:=by
   rintro rfl
   obtain⟨cs',_,_,h6⟩:=a0F hk h3
   omega
  obtain⟨g1,g2⟩:=hlive b k [] hkk (by rw[h3];simp) h1
  exact⟨g1,by simp[Env.mv,hkk],⟨cs,by rw[Tr.j7 _ _ hkk];exact h3,D7 cs⟩,arr,by rw[g2];exact h5,rfl,fun _ _=>rfl⟩
theorem a3u {p q:Path} {x y:Nat×Nat} {r:Path} (hne:x≠y) (h:(p ++ [x])++q <+: p ++ [y]++r):False:=by
 obtain⟨s,hs⟩:=h
 simp only[List.append_assoc,List.append_cancel_left_eq,List.cons_append,List.nil_append,List.cons.injEq]at hs
 exact hne hs.1
theorem a8n {om om':Nat→Option (Nat×Path)} {k:Nat} {i:Th Int} {j:Nat} {hdr:Value} {t2:RT} {l2:Th (List t2.ty)} : ∀(pre:List (Th Int×Nat)) (p:Path) (t:RT) (l:Th (List t.ty)) (v:Value),
  OwnA om k w p v (.list t l)→subA t l (pre ++ [(i,j)])=some (.list t2 l2)→C2 om k w t l v (pre ++ [(i,j)]) hdr →
  (∀b q,om b=some (k,q) → ¬(p++E8 (pre ++ [(i,j)])) <+: q→om' b=some (k,q)∧w'.heap[b]? = w.heap[b]?)→a4K om' k w' p v t l (E8 pre) (i ()).toNat j
 |[],p,t,l,v,ho,hs,hm,hp=>by
  simp only[List.nil_append,C2]at hm
  obtain⟨b,cap,q,h1,h2,h3,h4,u,t3,l3,h5,h6,h7⟩:=hm
  rcases ho.list with ⟨hv,_⟩|⟨b',cap',cs,T,vs,as,hr,hb,hc⟩
  ·rw[hv]at h1;cases h1
  ·have hj:=a0e h6
   have hb':=hp b' p hb (fun⟨s,hs⟩=>by
    have:=congrArg List.length hs
    simp[E8]at this)
   refine⟨b',cap',cs,T,vs,as,hr.att hb'.2,hb'.1,h4,hj,fun i' j' hi' hj' hne => ?_,(hc _ _ h4 hj).one⟩
   refine(hc i' j' hi' hj').mono _ fun b'' r hr''=>hp b'' _ hr'' fun hpre => ?_
   refine a3u (p:=p) (x:=((i ()).toNat,j)) (y:=(i',j')) (q := []) (r:=r) (fun hh => ?_) (by simpa [E8]using hpre)
   cases hh
   simp at hne
 |(i1,j1)::r,p,t,l,v,ho,hs,hm,hp=>by
  obtain⟨b,cap,q,h1,h2,h3,h4,u,t3,l3,h5,h6,h7⟩:=hm
  simp only[List.cons_append,subA,h6]at hs
  rcases ho.list with ⟨hv,_⟩|⟨b',cap',cs,T,vs,as,hr,hb,hc⟩
  ·rw[hv]at h1;cases h1
  ·have hv:=hr.hv
   rw[h1]at hv
   simp only[Value.slice.injEq,Option.some.injEq,Addr.mk.injEq]at hv
   obtain⟨⟨rfl,_⟩,_,_⟩:=hv
   have hj:=a0e h6
   obtain⟨g1,g2⟩:=hr.hg _ _ h4 hj
   rw[o9 hr.hh,g2]at h5
   cases h5
   have hb':=hp b p hb (fun⟨s,hs⟩=>by
    have:=congrArg List.length hs
    simp[E8]at this)
   have hcc:=hc _ _ h4 hj
   have h6':as (i1 ()).toNat j1 = .list t3 l3:=by
    rw[J6,g1]at h6
    exact Option.some.inj h6
   rw[h6']at hcc
   refine⟨b,cap',cs,T,vs,as,t3,l3,hr.att hb'.2,hb'.1,h4,hj,by rw[g1,h6'],fun i' j' hi' hj' hne => ?_,?_⟩
   ·refine(hc i' j' hi' hj').mono _ fun b'' r' hr''=>hp b'' _ hr'' fun hpre => ?_
    refine a3u (p:=p) (x:=((i1 ()).toNat,j1)) (y:=(i',j')) (q:=E8 (r ++ [(i,j)])) (r:=r') (fun hh => ?_) (by simpa [E8]using hpre)
    cases hh
    simp at hne
   ·exact a8n r (p ++ [((i1 ()).toNat,j1)]) t3 l3 _ hcc hs h7 fun b'' q' hb'' hn=>hp b'' q' hb'' fun hpre=>hn (by simpa [E8]using hpre)
def Env.take (e:Env) (k key:Nat) (p:Path) (v:Value):Env where
 S:=e.S
 om:=fun b'=>match e.om b' with
  |some (k',q)=>if k'=k∧p <+: q then some (key,q.drop p.length)else if k'=key then none else some (k',q)
  |none=>none
 E:=fun k=>if k=key then v else e.E k
theorem step_take (h:HR e hp w) {k key ver g j:Nat} {pre:List (Th Int×Nat)} {i:Th Int} {v:Value} {t0 t:RT} {l0:Th (List t0.ty)} {l:Th (List t.ty)} (hkk:k≠key) (hx:hp.get k=(ver,.row true g t0 l0))
  (hs:subA t0 l0 (pre ++ [(i,j)])=some (.list t l)) (hm:C2 e.om k w t0 l0 (e.E k) (pre ++ [(i,j)]) v) (hi:0≤i ()) {ver':Nat} (hv:(hp.get key).1<ver') (hk:keeps (hp.get key) (ver',.row true 0 t l)=true) :
  Stp e hp w (e.take k key (E8 (pre ++ [(i,j)])) v) ((hp.set k (ver,.hole g t0 l0 pre i j)).set key (ver',.row true 0 t l)) w:=by
 have hch:=h.chs k
 rw[hx]at hch
 have hown:=a1k _ _ _ _ _ _ _ _ hch hs hm
 simp only[List.nil_append]at hown
 have hgk:((hp.set k (ver,.hole g t0 l0 pre i j)).set key (ver',.row true 0 t l)).get k=(ver,.hole g t0 l0 pre i j):=by rw[Tr.j7 _ _ hkk,Tr.e8]
 have hgo : ∀k',k'≠k→k'≠key→((hp.set k (ver,.hole g t0 l0 pre i j)).set key (ver',.row true 0 t l)).get k'=hp.get k':=fun k' h1 h2=>by rw[Tr.j7 _ _ h2,Tr.j7 _ _ h1]
 have hsame : ∀k',k'≠k→k'≠key → ∀b q,e.om b=some (k',q)→(e.take k key (E8 (pre ++ [(i,j)])) v).om b=some (k',q)∧w.heap[b]? = w.heap[b]? := fun k' h1 h2 b q hb=>⟨by simp[Env.take,hb,h1,h2],rfl⟩
 have hsr:SR e hp w (e.take k key (E8 (pre ++ [(i,j)])) v) ((hp.set k (ver,.hole g t0 l0 pre i j)).set key (ver',.row true 0 t l)) w:=by
  refine⟨fun b hb=>⟨hb,rfl⟩,fun k' => ?_⟩
  by_cases h2:k'=key
  ·subst h2
   exact .bump (by rw[Tr.e8];exact hv)
  ·by_cases h1:k'=k
   ·subst h1
    refine .upd (by rw[hgk,hx]) (by simp[Env.take,h2]) ?_
    rw[hgk,hx]
    exact .hole g t0 l0 pre i j
   ·exact .same (hgo k' h1 h2) (by simp[Env.take,h2]) fun b q hb=>hsame k' h1 h2 b q hb
 refine⟨h.step hsr (fun k' => ?_) (fun b hb => ?_) (fun b y hb => ?_),hsr,⟨rfl,rfl,rfl,fun _ h => .inl h,Nat.le_refl _,fun b hb ho=>⟨rfl,by simp[Env.take,ho]⟩,fun b k' off n cs arr T h1 h2 h3 h4 h5 => ?_⟩⟩
 ·by_cases h2:k'=key
  ·subst h2
   right
   rw[Tr.e8]
   show OwnA _ k' w [] ((e.take k k' (E8 (pre ++ [(i,j)])) v).E k') (.list t l)
   rw[show(e.take k k' (E8 (pre ++ [(i,j)])) v).E k'=v by simp[Env.take]]
   refine hown.mono [] fun b r hb=>⟨?_,rfl⟩
   simp[Env.take,hb]
  ·by_cases h1:k'=k
   ·subst h1
    right
    rw[hgk]
    refine⟨hi,?_⟩
    rw[show(e.take k' key (E8 (pre ++ [(i,j)])) v).E k'=e.E k' by simp[Env.take,h2]]
    refine a8n pre [] t0 l0 _ hch hs hm fun b q hb hn=>⟨?_,rfl⟩
    simp only[List.nil_append]at hn
    simp[Env.take,hb,hn,h2]
   ·left
    exact⟨hgo k' h1 h2,by simp[Env.take,h2],fun b q hb=>hsame k' h1 h2 b q hb⟩
 ·have h1:=h.sOk b hb
  exact⟨by simp[Env.take,h1.1],h1.2⟩
 ·simp only[Env.take]at hb
  split at hb
  ·rename_i k' q ho
   exact h.oOk b _ ho
  ·cases hb
 ·have hk1:k'≠k:=by
   rintro rfl
   rw[hx]at h3
   cases h3
  have hk2:k'≠key:=by
   rintro rfl
   obtain⟨cs',_,_,h6⟩:=a0F hk h3
   omega
  exact⟨(hsame k' hk1 hk2 b [] h1).1,by simp[Env.take,hk2],⟨cs,by rw[hgo k' hk1 hk2];exact h3,D7 cs⟩,arr,h5,rfl,fun _ _=>rfl⟩
end
end Go.Sx
namespace Go.Sx
section
variable {P:Program} {ctx:Ctx} {B:Base} {e:Env} {a:Act} {w w':World} {L:Locks} {hp:Hp}
inductive Old (w:World) (size:Nat):Value→Nat→Nat→Nat→Array Value→Nat→Prop
 |nil (b cap:Nat) (cs:Array Value) (T:Nat):cs = #[]→cap=0→Old w size (.slice none 0 0) 0 b cap cs T
 |row (n b cap:Nat) (cs:Array Value) (T:Nat):w.heap[b]? = some (.cells cs T (0,0))→n≤cap→cap≤maxLen→cs.size=cap * size→Old w size (.slice (some ⟨b,0,none⟩) n cap) n b cap cs T
def News (w:World) (size:Nat) (x:Value) (m:Nat) (us:List Value):Prop :=
 us.length=m * size∧((x = .slice none 0 0∧m=0)∨(m=0 ∧ ∃a cap,x = .slice (some a) 0 cap) ∨ ∃b off cap,x = .slice (some ⟨b,off,none⟩) m cap ∧ ∀(j:Nat) u,us[j]? = some u→w.cell? ⟨b,off+j,none⟩=some u)
structure AppM (w w':World) (size:Nat) (s v:Value) (n m b cap:Nat) (cs:Array Value) (us:List Value) (b' cap':Nat) (cs':Array Value) (T':Nat):Prop where
 hv:v = .slice (some ⟨b',0,none⟩) (n+m) cap'
 hh:w'.heap[b']? = some (.cells cs' T' (0,0))
 hc:n+m≤cap'
 hm:cap'≤maxLen
 hs:cs'.size=cap' * size
 old : ∀o,o<n * size→cs'[o]? = cs[o]?
 new : ∀o,o<m * size→cs'[n * size+o]? = us[o]?
 os:w'.os=w.os
 tape:w'.tape=w.tape
 output:w'.output=w.output
 size':w.heap.size≤w'.heap.size
 at_:(b'=b∧(∃n',s = .slice (some ⟨b,0,none⟩) n' cap) ∧ ∀x,x≠b→w'.heap[x]? = w.heap[x]?)∨(b'=w.heap.size∧w.heap.size<w'.heap.size ∧ ∀x,x<w.heap.size→w'.heap[x]? = w.heap[x]?)
theorem H8 {T E ty size bytes n m b cap T0:Nat} {inf:TypeInfo} {z s x:Value} {cs:Array Value} {us:List Value} (hu:P.underlying T=some (.slice E)) (hi:P.info? E=some inf) (hz:inf.zero=some z)
  (hsize:inf.size=size) (hby:inf.bytes=bytes) (hzs:z.cells.size=size) (hO:Old w size s n b cap cs T0) (hN:News w size x m us) (h1 : ∀u∈us,one u) (hlen:n+m≤140737488355328) (hbytes:(n+m) * bytes≤140737488355328) :
  ((Builtin.append_ #[T,T] ty #[s,x]).run P w = .ok (.slice none 0 0) w∧s = .slice none 0 0∧n=0∧m=0) ∨
   ∃v w' b' cap' cs' T',(Builtin.append_ #[T,T] ty #[s,x]).run P w = .ok v w'∧AppM w w' size s v n m b cap cs us b' cap' cs' T':=by
 subst hsize
 subst hby
 have hsmall:n+m≤9223372036854775807:=by omega
 have hnm:n+m≤maxLen:=by simp only[maxLen];omega
 have grown : ∀(old:Nat) (olds:List Value),olds.length=n * inf.size→(∀o,o<n * inf.size→olds[o]? = cs[o]?)→old<n+m →
   (Builtin.append_ #[T,T] ty #[s,x]).run P w = .ok (.slice (some ⟨w.heap.size,0,none⟩) (n+m) (grownCap w (n+m) old E)) (w.drew.alloc (.cells (olds.toArray++us.toArray++Builtin.zeroCells z.cells (grownCap w (n+m) old E-(n+m))) E)) →
   ∃v w' b' cap' cs' T',(Builtin.append_ #[T,T] ty #[s,x]).run P w = .ok v w'∧AppM w w' inf.size s v n m b cap cs us b' cap' cs' T':=by
  intro old olds hol hoc ho hr
  have hge:=grownCap_ge w (n+m) old E
  have hcm:grownCap w (n+m) old E≤maxLen:=grownCap_le_maxLen w (n+m) old E hnm
  refine⟨_,_,w.heap.size,_,_,_,hr,⟨rfl,heap_alloc_new w.drew _,hge,hcm,?_,fun o ho' => ?_,fun o ho' => ?_,rfl,rfl,rfl,?_,.inr ⟨rfl,?_,fun x hx=>heap_alloc_old w.drew _ x hx⟩⟩⟩
  ·simp only[Array.size_append,List.size_toArray,size_zeroCells,hzs,hol,hN.1,←Nat.add_mul]
   congr 1
   omega
  ·rw[←hoc o ho']
   simp only[Array.getElem?_append,List.size_toArray,Array.size_append,hol]
   rw[if_pos (by omega),if_pos (by omega)]
   simp
  ·simp only[Array.getElem?_append,List.size_toArray,Array.size_append,hol,hN.1]
   rw[if_pos (by omega),if_neg (by omega)]
   simp
  ·simp
  ·simp
 cases hO with
 |nil _ _ _ _ hcs hcap =>
  rcases hN.2 with ⟨rfl,rfl⟩|⟨rfl,ax,capx,rfl⟩|⟨bx,off,capx,rfl,hnews⟩
  ·left
   refine⟨?_,rfl,rfl,rfl⟩
   simp[Builtin.append_,run_underlying hu,sizeOf,typeInfo,hi,Builtin.lenOf,Builtin.firstCells]
  ·left
   refine⟨?_,rfl,rfl,rfl⟩
   simp[Builtin.append_,run_underlying hu,sizeOf,typeInfo,hi,Builtin.lenOf,Builtin.firstCells,loadCells,loadCellsFrom]
  ·by_cases hm:m=0
   ·subst hm
    left
    have hn:us = []:=List.eq_nil_of_length_eq_zero (by simpa using hN.1)
    refine⟨?_,rfl,rfl,rfl⟩
    simp[Builtin.append_,run_underlying hu,sizeOf,typeInfo,hi,Builtin.lenOf,Builtin.firstCells,loadCells,loadCellsFrom]
   ·right
    have hr:=run_append_nil (P:=P) w T ty E inf z hu hi hz ⟨bx,off,none⟩ m capx us hN.1 (fun j u hj=>by rw[v7];exact hnews j u hj) (by omega) (by omega) (by rw[Nat.zero_add]at hbytes;omega)
    refine grown 0 [] (by simp) (fun o ho=>by simp at ho) (by omega) ?_
    simpa using hr
 |row _ _ _ _ _ hh hnc hcm hcs =>
  right
  rcases hN.2 with ⟨rfl,rfl⟩|⟨rfl,ax,capx,rfl⟩|⟨bx,off,capx,rfl,hnews⟩
  rotate_left
  ·have hr:(Builtin.append_ #[T,T] ty #[.slice (some ⟨b,0,none⟩) n cap,.slice (some ax) 0 capx]).run P w = .ok (.slice (some ⟨b,0,none⟩) n cap) w:=by
    simp[Builtin.append_,run_underlying hu,sizeOf,typeInfo,hi,Builtin.lenOf,Builtin.firstCells,storeCells,hnc,loadCells,loadCellsFrom]
   exact⟨_,_,b,cap,cs,T0,hr,⟨rfl,hh,hnc,hcm,hcs,fun _ _=>rfl,fun o ho=>by simp at ho,rfl,rfl,rfl,Nat.le_refl _,.inl ⟨rfl,⟨n,rfl⟩,fun _ _=>rfl⟩⟩⟩
  rotate_left
  ·have hr:(Builtin.append_ #[T,T] ty #[.slice (some ⟨b,0,none⟩) n cap,.slice none 0 0]).run P w = .ok (.slice (some ⟨b,0,none⟩) n cap) w:=by
    simp[Builtin.append_,run_underlying hu,sizeOf,typeInfo,hi,Builtin.lenOf,Builtin.firstCells,storeCells,hnc]
   exact⟨_,_,b,cap,cs,T0,hr,⟨rfl,hh,hnc,hcm,hcs,fun _ _=>rfl,fun o ho=>by simp at ho,rfl,rfl,rfl,Nat.le_refl _,.inl ⟨rfl,⟨n,rfl⟩,fun _ _=>rfl⟩⟩⟩
  ·by_cases hroom:n+m≤cap
   ·have hfit:n * inf.size+us.length≤cs.size:=by rw[hN.1,hcs,←Nat.add_mul];exact Nat.mul_le_mul_right _ hroom
    have hf:=run_firstCells_some (P:=P) w inf.size m ⟨bx,off,none⟩ m capx us hN.1 (fun j u hj=>by rw[v7];exact hnews j u hj)
    have hst:=N1 (P:=P) (o:=n * inf.size) hh hfit h1
    have hr:(Builtin.append_ #[T,T] ty #[.slice (some ⟨b,0,none⟩) n cap,.slice (some ⟨bx,off,none⟩) m capx]).run P w = .ok (.slice (some ⟨b,0,none⟩) (n+m) cap) (wrote w b (n * inf.size) cs us):=by
     simp[Builtin.append_,run_underlying hu,sizeOf,typeInfo,hi,Builtin.lenOf,hroom,hf,Addr.add_lit,hst]
    refine⟨_,_,b,cap,_,T0,hr,⟨rfl,setRow_heap w b cs _ T0 _ hh,hroom,hcm,?_,fun o ho => ?_,fun o ho => ?_,rfl,rfl,rfl,by simp[wrote,World.setRow],.inl ⟨rfl,⟨n,rfl⟩,fun x hx=>setRow_other w b x _ hx⟩⟩⟩
    ·rw[List.size_toArray,o8 _ _ _ (by simpa using hfit),Array.length_toList,hcs]
    ·rw[C7,A5 _ _ _ (by simpa using hfit) _ (by omega)]
     simp
    ·rw[C7,K9 _ _ _ (by simpa using hfit) _ (by rw[hN.1];exact ho)]
   ·have hol:(cs.toList.take (n * inf.size)).length=n * inf.size:=by
     rw[List.length_take,Array.length_toList,hcs]
     exact Nat.min_eq_left (Nat.mul_le_mul_right _ hnc)
    have hr:=run_append_grow (P:=P) w T ty E inf z hu hi hz ⟨b,0,none⟩ n cap (cs.toList.take (n * inf.size)) hol (fun j u hj=>by
     rw[v7,Nat.zero_add,o9 hh]
     rw[List.getElem?_take]at hj
     split at hj
     ·simpa using hj
     ·cases hj) ⟨bx,off,none⟩ m capx us hN.1 (fun j u hj=>by rw[v7];exact hnews j u hj) (by omega) (by omega) (growslice_fits (by omega) hbytes)
    exact grown cap _ hol (fun o ho=>by rw[List.getElem?_take,if_pos ho];simp) (by omega) hr
end
end Go.Sx
