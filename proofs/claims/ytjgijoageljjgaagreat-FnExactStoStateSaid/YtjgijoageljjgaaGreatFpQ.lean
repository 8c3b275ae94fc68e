/-
  The law FnExactStoState: StoState is the reference's.
-/
import Derived.Test.YtjgijoageljjgaaGreatFpN
import Derived.Test.YtjgijoageljjgaaGreatFpA
import Derived.Test.YtjgijoageljjgaaGreatFpB
import Derived.Test.YtjgijoageljjgaaGreatFpC
import Derived.Test.YtjgijoageljjgaaGreatFpD
import Derived.Test.YtjgijoageljjgaaGreatFoD
set_option linter.unusedVariables false
set_option linter.unusedSimpArgs false
namespace Go.Proofs.YtjgijoageljjgaaGreat
open Go.Sx Go.Proofs Go.Mo
set_option maxRecDepth 100000
set_option maxHeartbeats 40000000
set_option linter.unusedSimpArgs false
set_option linter.unusedVariables false

noncomputable def sExStoState : Sx.Spec := ⟨false, true, [.map, .row .sto], [], fun _ _ x => .asrt (fun _ => True) (.ret (vB fun _ => true, fun _ => 0))⟩
theorem okExStoState : SpecOk1 Tryz.prog 6 sExStoState := spec1 tabOk (ss := [(13, sToM), (11, sCnS), (14, sToS), (16, sIsS), (33, muX sMkS), (22, sIsC), (23, muX sMkC), (24, sHdC), (31, sStoState), (32, sStoState)]) ⟨okToM, okCnS, okToS, okEqS, okMkS, okEqC, okMkC, okHdC, okSStoState, okStoState, trivial⟩ rfl rfl <| by
  intro (bs : Th (List Int)) (p : Th Int) ⟨(m : Th PMap), (s : Th Sto), u⟩ K _ _ ho h
  obtain ⟨m, rfl⟩ := th_ex m; obtain ⟨s, rfl⟩ := th_ex s
  obtain ⟨ha, h⟩ := h
  have f1 := @cntT_fit s 1048576
  have g1 := @fitT.b s
  have g2 := @fitT.r s
  have f2 := state_fit m s
  have f3 := markC_mkd 1 (stoStateX m s)
  have f4 := endC_mark 1 (stoStateX m s)
  have f5 := markC_fit (k := 1) f2
  have f6 := endS_ge 1 s
  have f7 := endC_ge 1 (stoStateX m s)
  refine ⟨noAnn, noAnn, 20, ?_⟩
  cbv
  repeat' first | ((with_reducible refine fun (k : Nat) => ?_); cbv) | ((with_reducible refine fun (q : Nat × Unit) => ?_); obtain ⟨s, _⟩ := q; cbv) | ((with_reducible refine fun (q : Nat × Nat) => ?_); obtain ⟨s, k⟩ := q; cbv) | ((with_reducible intro _); cbv) | ((with_reducible show _ ∧ _); (with_reducible apply And.intro))
  all_goals first | (refine retK h ?_; clear h; simp only [fin0]) | (with_reducible refine Ob.mk ?_; clear h) | (clear h)
  all_goals (try simp only [eta0, RT.bytes] at *)
  all_goals (try simp only [eta_markC, eta_markS, eta_markSb, eta_markSs, eta_markH, eta_markHb, eta_markHs] at *)
  all_goals (try simp only [markH_state] at *)
  all_goals grind [szN]
noncomputable def sExStoStateL1 : Sx.Spec := ⟨false, true, [.map, .row .lsto], [], fun _ _ x => .asrt (fun _ => 1048576 < cntS (x.2.1 ())) (.ret (vB fun _ => true, fun _ => 0))⟩
theorem okExStoStateL1 : SpecOk1 Tryz.prog 6 sExStoStateL1 := spec1 tabOk (ss := [(11, sSzS)]) ⟨okSzSl, trivial⟩ rfl rfl <| by
  intro (bs : Th (List Int)) (p : Th Int) ⟨(m : Th PMap), (s : Th LSto), u⟩ K _ _ ho h
  obtain ⟨m, rfl⟩ := th_ex m; obtain ⟨s, rfl⟩ := th_ex s
  obtain ⟨ha, h⟩ := h
  have ha := ha.out
  refine ⟨noAnn, noAnn, 20, ?_⟩
  cbv
  repeat' first | ((with_reducible refine fun (k : Nat) => ?_); cbv) | ((with_reducible refine fun (q : Nat × Unit) => ?_); obtain ⟨s, _⟩ := q; cbv) | ((with_reducible refine fun (q : Nat × Nat) => ?_); obtain ⟨s, k⟩ := q; cbv) | ((with_reducible intro _); cbv) | ((with_reducible show _ ∧ _); (with_reducible apply And.intro))
  all_goals first | (refine retK h ?_; clear h; simp only [fin0]) | (with_reducible refine Ob.mk ?_; clear h) | (clear h)
  all_goals (try simp only [eta0, RT.bytes] at *)
  all_goals grind [szN, cntS, cntC]
end Go.Proofs.YtjgijoageljjgaaGreat
