/-
  Contracts: cells copied, cells asked.
-/
import Derived.Test.YtfgphaokmjdcbaaGreatFnB
import Derived.Test.YtfgphaokmjdcbaaGreatFnD
import Derived.Test.YtfgphaokmjdcbaaGreatM1
set_option linter.unusedVariables false
set_option linter.unusedSimpArgs false
namespace Go.Proofs.YtfgphaokmjdcbaaGreat
open Go.Sx Go.Proofs Go.Mo
set_option maxRecDepth 100000
set_option maxHeartbeats 8000000
set_option linter.unusedSimpArgs false
set_option linter.unusedVariables false

noncomputable def sCloneC : Sx.Spec := ⟨false, true, [.row .cll], [nCll], fun _ _ ⟨c, _⟩ => .ret (oCll c, fun _ => 0)⟩
noncomputable def sCllOk : Sx.Spec := ⟨false, true, [.map, .row .cll], [], fun _ _ ⟨m, c, _⟩ => .ret (vB fun _ => cllOk (m ()) (c ()), fun _ => 0)⟩
noncomputable def sL5Side : Sx.Spec := ⟨false, true, [.map, .row .cll, .int .i64], [], fun _ _ ⟨m, c, s, _⟩ => .asrt (fun _ => 0 ≤ s () ∧ s () < (c ()).outs.length ∧ s () < (c ()).next.length ∧ s () < (c ()).ins.length) (.ret (vB fun _ => cllSide (m ()) (c ()) (s ()).toNat, fun _ => 0))⟩

theorem okL5Copy : SpecOk1 Tryz.prog 135 sCloneC := spec1 tabOk (ss := [(169, sCloneW)]) ⟨okL2Copy, trivial⟩ rfl rfl <| by
  intro (bs : Th (List Int)) (p : Th Int) ⟨(c : Th Cll), u⟩ K _ _ ho h
  obtain ⟨c, rfl⟩ := th_ex c
  obtain ⟨hw, hou, hoi, hn, hi, _, _⟩ := okCll ho.1
  have hz := pre_len c.outs
  have hs := fun k => @pre_succ .pcls c.outs k
  refine ⟨annL [(135, 4, ⟨Nat, [⟨.tmp 3 0, some 10, .pcls⟩], fun σ k => (((σ.fg 10).t 4 (vI fun _ => (k : Int))).t 3 (vO 10 1)).row 10 1 .pcls (fun _ => pre c.outs k), fun _ k _ => k ≤ c.outs.length, fun _ k _ => c.outs.length - k⟩)], noAnn, 20, ?_⟩
  cbv
  repeat' first | ((with_reducible refine fun (k : Nat) => ?_); cbv) | ((with_reducible intro _); cbv) | ((with_reducible show _ ∧ _); (with_reducible apply And.intro))
  all_goals try ((first | (with_reducible refine LoopIn.mk ((0 : Nat)) ?_ ?_) | (with_reducible refine LoopBack.mk ((k + 1 : Nat)) ?_ ?_ ?_)) )
  all_goals try ((with_reducible show matchSt _ _); cbv; (try simp only [and_true, true_and]))
  all_goals try (with_reducible show _ ∧ _; (repeat' (with_reducible apply And.intro)))
  all_goals first | (refine retK h ?_; clear h; simp only [fin0]) | (with_reducible refine Ob.mk ?_; clear h) | (clear h)
  all_goals (try simp only [eta0, RT.bytes] at *)
  all_goals grind [pre_zero, pre_all, wrap_succ]

theorem okL5Side : SpecOk1 Tryz.prog 173 sL5Side := spec1 tabOk (ss := [(48, sPlcSide), (195, sPclListOk), (47, sIn), (103, sPlcCell)]) ⟨okSPlcSide, okSPclListOk, okL1In, okSPlcCell, trivial⟩ rfl rfl <| by
  intro (bs : Th (List Int)) (p : Th Int) ⟨(m : Th PMap), (c : Th Cll), (i : Th Int), u⟩ K _ _ ho h
  obtain ⟨m, rfl⟩ := th_ex m; obtain ⟨c, rfl⟩ := th_ex c; obtain ⟨i, rfl⟩ := th_ex i
  obtain ⟨hw, hou, hoi, hn, hi, _, _⟩ := okCll ho.2.1
  obtain ⟨hpre, h⟩ := h
  have hpre := hpre.out
  simp only at hpre
  obtain ⟨s, rfl⟩ : ∃ s : Nat, i = (s : Int) := ⟨i.toNat, (Int.toNat_of_nonneg hpre.1).symm⟩
  simp only [Int.ofNat_lt] at hpre
  refine ⟨annL [(173, 7, ⟨Nat, [], fun σ k => (σ.t 8 (vI fun _ => (k : Int))), fun _ k _ => k ≤ (nth .pcls c.outs s).length ∧ sideHead m c s = true ∧ allTo k (pclDest m (plcSide m c.cell s) (nth .pcls c.outs s)) = true, fun _ k _ => (nth .pcls c.outs s).length - k⟩)], noAnn, 20, ?_⟩
  cbv
  repeat' first | ((with_reducible refine fun (k : Nat) => ?_); cbv) | ((with_reducible intro _); cbv) | ((with_reducible show _ ∧ _); (with_reducible apply And.intro))
  all_goals try ((first | (with_reducible refine LoopIn.mk ((0 : Nat)) ?_ ?_) | (with_reducible refine LoopBack.mk ((k + 1 : Nat)) ?_ ?_ ?_)) )
  all_goals try ((with_reducible show matchSt _ _); cbv; (try simp only [and_true, true_and]))
  all_goals try (with_reducible show _ ∧ _; (repeat' (with_reducible apply And.intro)))
  all_goals first | (refine retK h ?_; clear h; simp only [fin0]) | (with_reducible refine Ob.mk ?_; clear h) | (clear h)
  all_goals (try simp only [eta0, RT.bytes] at *)
  all_goals grind [inR, allTo_zero, allTo_succ, sideHead, cllSide, pclDest, cllSide_bad, cllSide_empty, wrap_succ]

end Go.Proofs.YtfgphaokmjdcbaaGreat

/-
  Contracts: lists and cells compared, whatever comes of it.
-/
namespace Go.Mo
open Go.Sx
/-- The first so many elements are the same. -/
def same (t : RT) (a b : List t.ty) (k : Nat) : Prop := ∀ i, i < k → nth t a i = nth t b i
theorem same_zero (t : RT) (a b : List t.ty) : same t a b 0 := fun i hi => by omega
theorem same_succ {t : RT} {a b : List t.ty} {k : Nat} (h : same t a b k) (hk : nth t a k = nth t b k) : same t a b (k + 1) := fun i hi => by
  rcases Nat.lt_or_ge i k with h1 | h1
  · exact h i h1
  · have : i = k := by omega
    subst this
    exact hk
theorem same_all {t : RT} {a b : List t.ty} {k : Nat} (h : same t a b k) (hl : a.length = b.length) (hk : k = a.length) : a = b := by
  refine List.ext_getElem hl fun i h1 h2 => ?_
  rw [← nth_lt t a i h1, ← nth_lt t b i h2]
  exact h i (by omega)
theorem ord_ext {a b : Ord} : a = b ↔ a.who = b.who ∧ a.seq = b.seq ∧ a.kind = b.kind ∧ a.dest = b.dest ∧ a.n = b.n := by
  cases a; cases b; simp
end Go.Mo
namespace Go.Proofs.YtfgphaokmjdcbaaGreat
open Go.Sx Go.Proofs Go.Mo
set_option maxRecDepth 100000
set_option maxHeartbeats 8000000
set_option linter.unusedSimpArgs false
set_option linter.unusedVariables false

end Go.Proofs.YtfgphaokmjdcbaaGreat
