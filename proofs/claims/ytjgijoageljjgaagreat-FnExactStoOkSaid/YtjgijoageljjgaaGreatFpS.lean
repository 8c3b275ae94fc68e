/-
  The law FnExactStoOk: StoOk is the reference's.
-/
import Derived.Test.YtjgijoageljjgaaGreatFpA
import Derived.Test.YtjgijoageljjgaaGreatFpB
import Derived.Test.YtjgijoageljjgaaGreatFpC
import Derived.Test.YtjgijoageljjgaaGreatFoD
import Derived.Test.YtjgijoageljjgaaGreatLwX
import Derived.Test.YtjgijoageljjgaaGreatFpE
set_option linter.unusedVariables false
set_option linter.unusedSimpArgs false
namespace Go.Proofs.YtjgijoageljjgaaGreat
open Go.Sx Go.Proofs Go.Mo
set_option maxRecDepth 100000
set_option maxHeartbeats 8000000
set_option linter.unusedSimpArgs false
set_option linter.unusedVariables false

noncomputable def sExStoOk : Sx.Spec := ⟨false, true, [.map, .row .sto], [], fun _ _ x => .asrt (fun _ => True) (.ret (vB fun _ => true, fun _ => 0))⟩
noncomputable def sExStoOkL : Sx.Spec := ⟨false, true, [.map, .row .lsto], [], fun _ _ x => .asrt (fun _ => 1048576 < cntS (x.2.1 ())) (.ret (vB fun _ => true, fun _ => 0))⟩

theorem okExStoOk : SpecOk1 Tryz.prog 3 sExStoOk := spec1 tabOk (ss := [(11, sSzA (.row .sto)), (13, sToM), (14, sToS), (12, sStoOk), (15, sStoOk), (16, sIsS)]) ⟨okSzS, okToM, okToS, okSStoOk, okStoOk, okEqS, trivial⟩ rfl rfl <| by
  intro (bs : Th (List Int)) (p : Th Int) ⟨(m : Th PMap), (s : Th Sto), u⟩ K _ _ ho h
  obtain ⟨m, rfl⟩ := th_ex m; obtain ⟨s, rfl⟩ := th_ex s
  obtain ⟨ha, h⟩ := h
  refine ⟨noAnn, noAnn, 20, ?_⟩
  cbv
  repeat' first | ((with_reducible refine fun (k : Nat) => ?_); cbv) | ((with_reducible refine fun (q : Nat × Unit) => ?_); obtain ⟨s, _⟩ := q; cbv) | ((with_reducible refine fun (q : Nat × Nat) => ?_); obtain ⟨s, k⟩ := q; cbv) | ((with_reducible intro _); cbv) | ((with_reducible show _ ∧ _); (with_reducible apply And.intro))
  all_goals first | (refine retK h ?_; clear h; simp only [fin0]) | (with_reducible refine Ob.mk ?_; clear h) | (clear h)
  all_goals (try simp only [eta0, RT.bytes] at *)
  all_goals grind
theorem okExStoOkL : SpecOk1 Tryz.prog 3 sExStoOkL := spec1 tabOk (ss := [(11, sSzS)]) ⟨okSzSl, trivial⟩ rfl rfl <| by
  intro (bs : Th (List Int)) (p : Th Int) ⟨(m : Th PMap), (s : Th LSto), u⟩ K _ _ ho h
  obtain ⟨m, rfl⟩ := th_ex m; obtain ⟨s, rfl⟩ := th_ex s
  obtain ⟨ha, h⟩ := h
  have ha := ha.out
  refine ⟨noAnn, noAnn, 20, ?_⟩
  cbv
  repeat' first | ((with_reducible refine fun (k : Nat) => ?_); cbv) | ((with_reducible refine fun (q : Nat × Unit) => ?_); obtain ⟨s, _⟩ := q; cbv) | ((with_reducible refine fun (q : Nat × Nat) => ?_); obtain ⟨s, k⟩ := q; cbv) | ((with_reducible intro _); cbv) | ((with_reducible show _ ∧ _); (with_reducible apply And.intro))
  all_goals first | (refine retK h ?_; clear h; simp only [fin0]) | (with_reducible refine Ob.mk ?_; clear h) | (clear h)
  all_goals (try simp only [eta0, RT.bytes] at *)
  all_goals grind [szN, cntS, cntC]

end Go.Proofs.YtjgijoageljjgaaGreat
