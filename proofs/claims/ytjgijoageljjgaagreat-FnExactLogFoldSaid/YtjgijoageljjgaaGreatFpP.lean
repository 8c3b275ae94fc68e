/-
  The law FnExactLogFold: LogFold is the reference's.
-/
import Derived.Test.YtjgijoageljjgaaGreatFpN
import Derived.Test.YtjgijoageljjgaaGreatFpA
import Derived.Test.YtjgijoageljjgaaGreatFpB
import Derived.Test.YtjgijoageljjgaaGreatFpC
import Derived.Test.YtjgijoageljjgaaGreatFpD
import Derived.Test.YtjgijoageljjgaaGreatFnY
import Derived.Test.YtjgijoageljjgaaGreatFoS
set_option linter.unusedVariables false
set_option linter.unusedSimpArgs false
namespace Go.Proofs.YtjgijoageljjgaaGreat
open Go.Sx Go.Proofs Go.Mo
set_option maxRecDepth 100000
set_option maxHeartbeats 40000000
set_option linter.unusedSimpArgs false
set_option linter.unusedVariables false

noncomputable def sExLogFold : Sx.Spec := ⟨false, true, [.map, .row .cll, .list .rcd], [], fun _ _ x => .asrt (fun _ => True) (.ret (vB fun _ => true, fun _ => 0))⟩
theorem okExLogFold : SpecOk1 Tryz.prog 5 sExLogFold := spec1 tabOk (ss := [(13, sToM), (17, sCnC), (19, sToC), (22, sIsC), (23, muX sMkC), (25, sCnR), (27, sToRs), (29, sIsR), (30, muX sMkR), (24, sHdC), (26, sLogFold), (28, sLogFold)]) ⟨okToM, okCnC, okToC, okEqC, okMkC, okCnR, okToRs, okEqRs, okMkR, okHdC, okNLogFold, okLogFold, trivial⟩ rfl rfl <| by
  intro (bs : Th (List Int)) (p : Th Int) ⟨(m : Th PMap), (c : Th Cll), (l : Th (List Sx.Rec)), u⟩ K _ _ ho h
  obtain ⟨m, rfl⟩ := th_ex m; obtain ⟨c, rfl⟩ := th_ex c; obtain ⟨l, rfl⟩ := th_ex l
  obtain ⟨ha, h⟩ := h
  have f1 := @cntX_fit c 1048576
  have f2 := lf_fit m c l
  have f3 := markC_mkd 1 (logFold m c l).c
  have f4 := endC_mark 1 (logFold m c l).c
  have f5 := markC_fit (k := 1) f2
  have f6 := endC_ge 1 c
  have f7 := endC_ge 1 (logFold m c l).c
  have f8 := endR_ge (endC 1 c) l
  have f9 := @endC_le 1 c
  refine ⟨noAnn, noAnn, 20, ?_⟩
  cbv
  repeat' first | ((with_reducible refine fun (k : Nat) => ?_); cbv) | ((with_reducible refine fun (q : Nat × Unit) => ?_); obtain ⟨s, _⟩ := q; cbv) | ((with_reducible refine fun (q : Nat × Nat) => ?_); obtain ⟨s, k⟩ := q; cbv) | ((with_reducible intro _); cbv) | ((with_reducible show _ ∧ _); (with_reducible apply And.intro))
  all_goals first | (refine retK h ?_; clear h; simp only [fin0]) | (with_reducible refine Ob.mk ?_; clear h) | (clear h)
  all_goals (try simp only [eta0, RT.bytes] at *)
  all_goals (try simp only [eta_markC, eta_markS, eta_markSb, eta_markSs, eta_markH, eta_markHb, eta_markHs] at *)
  all_goals (try simp only [markH_state] at *)
  all_goals grind [szN]
noncomputable def sExLogFoldL1 : Sx.Spec := ⟨false, true, [.map, .row .lcll, .list .long], [], fun _ _ x => .asrt (fun _ => 1048576 < cntC (x.2.1 ())) (.ret (vB fun _ => true, fun _ => 0))⟩
theorem okExLogFoldL1 : SpecOk1 Tryz.prog 5 sExLogFoldL1 := spec1 tabOk (ss := [(17, sSzC)]) ⟨okSzCl, trivial⟩ rfl rfl <| by
  intro (bs : Th (List Int)) (p : Th Int) ⟨(m : Th PMap), (c : Th LCll), (l : Th (List Unit)), u⟩ K _ _ ho h
  obtain ⟨m, rfl⟩ := th_ex m; obtain ⟨c, rfl⟩ := th_ex c; obtain ⟨l, rfl⟩ := th_ex l
  obtain ⟨ha, h⟩ := h
  have ha := ha.out
  refine ⟨noAnn, noAnn, 20, ?_⟩
  cbv
  repeat' first | ((with_reducible refine fun (k : Nat) => ?_); cbv) | ((with_reducible refine fun (q : Nat × Unit) => ?_); obtain ⟨s, _⟩ := q; cbv) | ((with_reducible refine fun (q : Nat × Nat) => ?_); obtain ⟨s, k⟩ := q; cbv) | ((with_reducible intro _); cbv) | ((with_reducible show _ ∧ _); (with_reducible apply And.intro))
  all_goals first | (refine retK h ?_; clear h; simp only [fin0]) | (with_reducible refine Ob.mk ?_; clear h) | (clear h)
  all_goals (try simp only [eta0, RT.bytes] at *)
  all_goals grind [szN, cntS, cntC]
noncomputable def sExLogFoldL2 : Sx.Spec := ⟨false, true, [.map, .row .cll, .list .long], [], fun _ _ x => .asrt (fun _ => 1048576 < List.length (x.2.2.1 ())) (.ret (vB fun _ => true, fun _ => 0))⟩
theorem okExLogFoldL2 : SpecOk1 Tryz.prog 5 sExLogFoldL2 := spec1 tabOk (ss := [(17, sCnC), (25, sSzL)]) ⟨okCnC, okSzRl, trivial⟩ rfl rfl <| by
  intro (bs : Th (List Int)) (p : Th Int) ⟨(m : Th PMap), (c : Th Cll), (l : Th (List Unit)), u⟩ K _ _ ho h
  obtain ⟨m, rfl⟩ := th_ex m; obtain ⟨c, rfl⟩ := th_ex c; obtain ⟨l, rfl⟩ := th_ex l
  obtain ⟨ha, h⟩ := h
  have ha := ha.out
  refine ⟨noAnn, noAnn, 20, ?_⟩
  cbv
  repeat' first | ((with_reducible refine fun (k : Nat) => ?_); cbv) | ((with_reducible refine fun (q : Nat × Unit) => ?_); obtain ⟨s, _⟩ := q; cbv) | ((with_reducible refine fun (q : Nat × Nat) => ?_); obtain ⟨s, k⟩ := q; cbv) | ((with_reducible intro _); cbv) | ((with_reducible show _ ∧ _); (with_reducible apply And.intro))
  all_goals first | (refine retK h ?_; clear h; simp only [fin0]) | (with_reducible refine Ob.mk ?_; clear h) | (clear h)
  all_goals (try simp only [eta0, RT.bytes] at *)
  all_goals grind [szN, cntS, cntC]
end Go.Proofs.YtjgijoageljjgaaGreat
