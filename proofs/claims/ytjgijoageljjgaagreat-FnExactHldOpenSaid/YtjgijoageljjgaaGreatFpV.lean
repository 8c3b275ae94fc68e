/-
  The law FnExactHldOpen: HldOpen is the reference's.
-/
import Derived.Test.YtjgijoageljjgaaGreatFpN
import Derived.Test.YtjgijoageljjgaaGreatFpA
import Derived.Test.YtjgijoageljjgaaGreatFpB
import Derived.Test.YtjgijoageljjgaaGreatFpC
import Derived.Test.YtjgijoageljjgaaGreatFpD
import Derived.Test.YtjgijoageljjgaaGreatFoHs
set_option linter.unusedVariables false
set_option linter.unusedSimpArgs false
namespace Go.Proofs.YtjgijoageljjgaaGreat
open Go.Sx Go.Proofs Go.Mo
set_option maxRecDepth 100000
set_option maxHeartbeats 40000000
set_option linter.unusedSimpArgs false
set_option linter.unusedVariables false

noncomputable def sExHldOpen : Sx.Spec := ⟨false, true, [.map, .row .sto, .int .i64], [], fun _ _ x => .asrt (fun _ => True) (.ret (vB fun _ => true, fun _ => 0))⟩
theorem okExHldOpen : SpecOk1 Tryz.prog 9 sExHldOpen := spec1 tabOk (ss := [(13, sToM), (11, sCnS), (14, sToS), (16, sIsS), (33, muX sMkS), (41, sIsH), (42, muX sMkH), (43, sHdH), (36, sHdS), (39, sHldOpen), (40, sHldOpen)]) ⟨okToM, okCnS, okToS, okEqS, okMkS, okEqH, okMkH, okHdH, okHdS, okSHldOpen, okHldOpen, trivial⟩ rfl rfl <| by
  intro (bs : Th (List Int)) (p : Th Int) ⟨(m : Th PMap), (s : Th Sto), (a : Th Int), u⟩ K _ _ ho h
  obtain ⟨m, rfl⟩ := th_ex m; obtain ⟨s, rfl⟩ := th_ex s; obtain ⟨a, rfl⟩ := th_ex a
  obtain ⟨ha, h⟩ := h
  have f1 := @cntT_fit s 1048576
  have g1 := @fitT.b s
  have g2 := @fitT.r s
  have f2 := open_fitS m s a
  have e2 := open_fitH m s a
  have f3 := markS_mkd (endC 1 (hldOpen m s a).h.state) (hldOpen m s a).s
  have f4 := endS_mark (endC 1 (hldOpen m s a).h.state) (hldOpen m s a).s
  have f5 := markS_fit (k := endC 1 (hldOpen m s a).h.state) f2
  have f2b := f2.b
  have f2r := f2.r
  have f5b := f5.b
  have f5r := f5.r
  have f6 := endS_ge 1 s
  have f7 := endS_ge (endC 1 (hldOpen m s a).h.state) (hldOpen m s a).s
  have e3 := markC_mkd 1 (hldOpen m s a).h.state
  have e4 := endC_mark 1 (hldOpen m s a).h.state
  have e5 := markC_fit (k := 1) e2
  have e7 := endC_ge 1 (hldOpen m s a).h.state
  have e8 := @endC_le 1 (hldOpen m s a).h.state e2
  refine ⟨noAnn, noAnn, 20, ?_⟩
  cbv
  repeat' first | ((with_reducible refine fun (k : Nat) => ?_); cbv) | ((with_reducible refine fun (q : Nat × Unit) => ?_); obtain ⟨s, _⟩ := q; cbv) | ((with_reducible refine fun (q : Nat × Nat) => ?_); obtain ⟨s, k⟩ := q; cbv) | ((with_reducible intro _); cbv) | ((with_reducible show _ ∧ _); (with_reducible apply And.intro))
  all_goals first | (refine retK h ?_; clear h; simp only [fin0]) | (with_reducible refine Ob.mk ?_; clear h) | (clear h)
  all_goals (try simp only [eta0, RT.bytes] at *)
  all_goals (try simp only [eta_markC, eta_markS, eta_markSb, eta_markSs, eta_markH, eta_markHb, eta_markHs] at *)
  all_goals (try simp only [markH_state] at *)
  all_goals grind [szN]
noncomputable def sExHldOpenL1 : Sx.Spec := ⟨false, true, [.map, .row .lsto, .int .i64], [], fun _ _ x => .asrt (fun _ => 1048576 < cntS (x.2.1 ())) (.ret (vB fun _ => true, fun _ => 0))⟩
theorem okExHldOpenL1 : SpecOk1 Tryz.prog 9 sExHldOpenL1 := spec1 tabOk (ss := [(11, sSzS)]) ⟨okSzSl, trivial⟩ rfl rfl <| by
  intro (bs : Th (List Int)) (p : Th Int) ⟨(m : Th PMap), (s : Th LSto), (a : Th Int), u⟩ K _ _ ho h
  obtain ⟨m, rfl⟩ := th_ex m; obtain ⟨s, rfl⟩ := th_ex s; obtain ⟨a, rfl⟩ := th_ex a
  obtain ⟨ha, h⟩ := h
  have ha := ha.out
  refine ⟨noAnn, noAnn, 20, ?_⟩
  cbv
  repeat' first | ((with_reducible refine fun (k : Nat) => ?_); cbv) | ((with_reducible refine fun (q : Nat × Unit) => ?_); obtain ⟨s, _⟩ := q; cbv) | ((with_reducible refine fun (q : Nat × Nat) => ?_); obtain ⟨s, k⟩ := q; cbv) | ((with_reducible intro _); cbv) | ((with_reducible show _ ∧ _); (with_reducible apply And.intro))
  all_goals first | (refine retK h ?_; clear h; simp only [fin0]) | (with_reducible refine Ob.mk ?_; clear h) | (clear h)
  all_goals (try simp only [eta0, RT.bytes] at *)
  all_goals grind [szN, cntS, cntC]
end Go.Proofs.YtjgijoageljjgaaGreat
