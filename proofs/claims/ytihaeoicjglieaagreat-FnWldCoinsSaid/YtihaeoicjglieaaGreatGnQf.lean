/-
  What a server hears, the program's way: the contract.
-/
import Derived.Test.YtihaeoicjglieaaGreatGrT
import Derived.Test.YtihaeoicjglieaaGreatM2
import Derived.Test.YtihaeoicjglieaaGreatGnC
import Derived.Test.YtihaeoicjglieaaGreatGnR
import Derived.Test.YtihaeoicjglieaaGreatGnM
import Derived.Test.YtihaeoicjglieaaGreatFnR
import Derived.Test.YtihaeoicjglieaaGreatGnP
import Derived.Test.YtihaeoicjglieaaGreatM3
set_option linter.unusedVariables false
set_option linter.unusedSimpArgs false
set_option maxRecDepth 100000
set_option maxHeartbeats 8000000
namespace Go.Proofs.YtihaeoicjglieaaGreat
open Go.Sx Go.Proofs Go.Mo
noncomputable def b3V:SpecX := .raw (b7A (insM .hld))
theorem c1Z:b8 Tryz.prog 251 b3V:=b5v c7j ⟨_,_,Tryz.func251,by kernel_rfl,rfl⟩
noncomputable def b3X:SpecX := .raw (b7A (delM .hld))
theorem c2b:b8 Tryz.prog 254 b3X:=b5v c7m ⟨_,_,Tryz.func254,by kernel_rfl,rfl⟩
theorem c8o {l:List Hld} {c:Int} (hs:HSort l) (hp:0≤j7 l c):F6 l c=l.eraseIdx (j7 l c).toNat:=by
 have hlt:=a3K l c
 have hcc:=a3g hp
 have hj:(j7 l c).toNat<l.length:=by omega
 generalize (j7 l c).toNat=j at *
 unfold F6
 have hl:l=l.take j++nth .hld l j::l.drop (j+1):=by
  rw[l6 .hld l j hj,←List.drop_eq_getElem_cons hj,List.take_append_drop]
 have hs2:=hs
 rw[hl]at hs2
 obtain⟨a1,a2,a3⟩:=List.pairwise_append.1 hs2
 have b1:=List.pairwise_cons.1 a2
 have t1:(l.take j).filter (fun h=>decide (h.state.cell≠c))=l.take j:=List.filter_eq_self.2 fun y hy=>by
  have:=a3 y hy _ (List.mem_cons_self ..)
  simp only[ne_eq,decide_eq_true_eq]
  omega
 have t2:(l.drop (j+1)).filter (fun h=>decide (h.state.cell≠c))=l.drop (j+1):=List.filter_eq_self.2 fun y hy=>by
  have:=b1.1 y hy
  simp only[ne_eq,decide_eq_true_eq]
  omega
 rw[List.eraseIdx_eq_take_drop_succ]
 conv=>lhs;rw[hl]
 rw[List.filter_append,List.filter_cons,t1,t2]
 simp[hcc]
theorem b9T {m:PMap} {s:Srv} {st:List Sto} {v:Int} {x:Msg} (h1:B5 m s=true) (h2:A9 m st=true) (h4:y5 m v x=true) :
  s.holds.length≤4∧0≤x.cell∧x.cell<st.length∧j7 s.holds x.cell<s.holds.length∧B1 m (nth .sto st x.cell.toNat)=true ∧
  (0≤j7 s.holds x.cell→S8 m (nth .hld s.holds (j7 s.holds x.cell).toNat)=true∧(nth .hld s.holds (j7 s.holds x.cell).toNat).state.ins.length=2∧s6 m (nth .hld s.holds (j7 s.holds x.cell).toNat).state=true∧0≤(nth .hld s.holds (j7 s.holds x.cell).toNat).count∧(nth .hld s.holds (j7 s.holds x.cell).toNat).count≤250) ∧
  (0≤j7 s.holds x.cell → ∀(a b:Int) (c:Cll),c.cell=(nth .hld s.holds (j7 s.holds x.cell).toNat).state.cell→W7 s.holds ⟨a,b,c⟩=s.holds.set (j7 s.holds x.cell).toNat ⟨a,b,c⟩) ∧
  (0≤j7 s.holds x.cell → ∀(a b:Int),W7 s.holds ⟨a,b,q9 m (nth .sto st x.cell.toNat)⟩=s.holds.set (j7 s.holds x.cell).toNat ⟨a,b,q9 m (nth .sto st x.cell.toNat)⟩) ∧
  (¬0≤j7 s.holds x.cell → ∀(k:Nat) (a b:Int),k≤s.holds.length→m8 k (a4T s.holds x.cell)=true→(k<s.holds.length → ¬(nth .hld s.holds k).state.cell<x.cell)→W7 s.holds ⟨a,b,q9 m (nth .sto st x.cell.toNat)⟩=insL s.holds k [⟨a,b,q9 m (nth .sto st x.cell.toNat)⟩]) ∧
  (0≤j7 s.holds x.cell→F6 s.holds x.cell=s.holds.eraseIdx (j7 s.holds x.cell).toNat) ∧
  (x.kind=1→1≤x.n∧x.n≤900∧B1 m ⟨x.n,(nth .sto st x.cell.toNat).base,(nth .sto st x.cell.toNat).recs⟩=true∧q9 m ⟨x.n,(nth .sto st x.cell.toNat).base,(nth .sto st x.cell.toNat).recs⟩=q9 m (nth .sto st x.cell.toNat)) ∧
  (x.kind=5→(x.side=0∨x.side=1)∧0≤x.pcl.n) ∧
  (0≤j7 s.holds x.cell→x.side=0∨x.side=1 → @LE.le Int _ 0 (nth .int (nth .hld s.holds (j7 s.holds x.cell).toNat).state.ins x.side.toNat) ∧ @LE.le Int _ (nth .int (nth .hld s.holds (j7 s.holds x.cell).toNat).state.ins x.side.toNat) 5000):=by
 have hf:=b2f h1 h2 h4
 obtain⟨f1,f2,f3,f4,f5,f6,f7,f8,f9,f10⟩:=hf
 have hlt:=a3K s.holds x.cell
 have hb:(nth .sto st x.cell.toNat).base.cell=x.cell:=by
  have:=((D0.1 h2).2.2 x.cell.toNat (by omega)).2
  omega
 have hsc:(q9 m (nth .sto st x.cell.toNat)).cell=x.cell:=by rw[a0i,hb]
 have hH:0≤j7 s.holds x.cell→A6 s x.cell=true∧j6 s x.cell=nth .hld s.holds (j7 s.holds x.cell).toNat:=fun hp=>⟨by simp[A6,hp],by unfold j6;rw[if_pos hp]⟩
 refine⟨a6N h1,f3,f4,hlt.2,f5,fun hp => ?_,fun hp a b c hc => ?_,fun hp a b => ?_,fun hp k a b hk ha hl => ?_,fun hp => ?_,fun hk => ?_,f9,fun hp hsd => ?_⟩
 ·have:=f6 (hH hp).1
  rw[(hH hp).2]at this
  have hh:=B7.1 this.1
  exact⟨this.1,this.2.2,hh.2.2,hh.2.1.1,hh.2.1.2⟩
 ·have hcc:=a3g hp
  unfold W7
  have e:(⟨a,b,c⟩:Hld).state.cell=x.cell:=by show c.cell=x.cell;rw[hc,hcc]
  rw[e,if_pos hp]
 ·unfold W7
  have e:(⟨a,b,q9 m (nth .sto st x.cell.toNat)⟩:Hld).state.cell=x.cell:=hsc
  rw[e,if_pos hp]
 ·unfold W7
  have e:(⟨a,b,q9 m (nth .sto st x.cell.toNat)⟩:Hld).state.cell=x.cell:=hsc
  rw[e,if_neg hp,d4G hk ha hl]
 ·exact c8o (b2c h1) hp
 ·have hn:=f8 hk
  have hso:=y7.1 f5
  exact⟨hn.1,hn.2,y7.2 ⟨⟨by show 0≤x.n;omega,by show x.n≤900;omega⟩,hso.2.1,hso.2.2.1,hso.2.2.2⟩,rfl⟩
 ·have:=f10 (hH hp).1 hsd
  rw[(hH hp).2]at this
  exact this
theorem b5A {m:PMap} {s:Sto} {a b:Int} {r:Rec} (h:B1 m s=true):A3 m s a b r=L4 m s a b r:=by rw[A3,if_pos h]
theorem d5o {m:PMap} {s:Sto} {a b:Int} {r:Rec} (h:(L4 m s a b r).n=1):H4 m r=true:=by
 unfold L4 at h
 split at h
 ·simp at h
 ·split at h
  ·simp at h
  ·split at h
   ·rename_i hh;exact hh.1
   ·simp at h
theorem d6F (n:Nat):(NatCast.natCast n:Int)=(n:Int):=rfl
end Go.Proofs.YtihaeoicjglieaaGreat
