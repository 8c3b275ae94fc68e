/-
  The law FnExactStoAppend: StoAppend is the reference's.
-/
import Derived.Test.YtjgijoageljjgaaGreatFpN
import Derived.Test.YtjgijoageljjgaaGreatFpA
import Derived.Test.YtjgijoageljjgaaGreatFpB
import Derived.Test.YtjgijoageljjgaaGreatFpC
import Derived.Test.YtjgijoageljjgaaGreatFpD
import Derived.Test.YtjgijoageljjgaaGreatFoE
set_option linter.unusedVariables false
set_option linter.unusedSimpArgs false
namespace Go.Proofs.YtjgijoageljjgaaGreat
open Go.Sx Go.Proofs Go.Mo
set_option maxRecDepth 100000
set_option maxHeartbeats 40000000
set_option linter.unusedSimpArgs false
set_option linter.unusedVariables false

noncomputable def sExStoAppend : Sx.Spec := ⟨false, true, [.map, .row .sto, .int .i64, .int .i64, .row .rcd], [], fun _ _ x => .asrt (fun _ => True) (.ret (vB fun _ => true, fun _ => 0))⟩
theorem okExStoAppend : SpecOk1 Tryz.prog 8 sExStoAppend := spec1 tabOk (ss := [(13, sToM), (11, sCnS), (14, sToS), (16, sIsS), (33, muX sMkS), (20, sToR), (36, sHdS), (37, sStoAppend), (38, sStoAppend)]) ⟨okToM, okCnS, okToS, okEqS, okMkS, okToR, okHdS, okSStoAppend, okStoAppend, trivial⟩ rfl rfl <| by
  intro (bs : Th (List Int)) (p : Th Int) ⟨(m : Th PMap), (s : Th Sto), (a : Th Int), (b : Th Int), (r : Th Sx.Rec), u⟩ K _ _ ho h
  obtain ⟨m, rfl⟩ := th_ex m; obtain ⟨s, rfl⟩ := th_ex s; obtain ⟨a, rfl⟩ := th_ex a; obtain ⟨b, rfl⟩ := th_ex b; obtain ⟨r, rfl⟩ := th_ex r
  obtain ⟨ha, h⟩ := h
  have f1 := @cntT_fit s 1048576
  have g1 := @fitT.b s
  have g2 := @fitT.r s
  have f2 := append_fit m s a b r
  have f3 := markS_mkd 1 (stoAppend m s a b r).s
  have f4 := endS_mark 1 (stoAppend m s a b r).s
  have f5 := markS_fit (k := 1) f2
  have f2b := f2.b
  have f2r := f2.r
  have f5b := f5.b
  have f5r := f5.r
  have f6 := endS_ge 1 s
  have f7 := endS_ge 1 (stoAppend m s a b r).s
  refine ⟨noAnn, noAnn, 20, ?_⟩
  cbv
  repeat' first | ((with_reducible refine fun (k : Nat) => ?_); cbv) | ((with_reducible refine fun (q : Nat × Unit) => ?_); obtain ⟨s, _⟩ := q; cbv) | ((with_reducible refine fun (q : Nat × Nat) => ?_); obtain ⟨s, k⟩ := q; cbv) | ((with_reducible intro _); cbv) | ((with_reducible show _ ∧ _); (with_reducible apply And.intro))
  all_goals first | (refine retK h ?_; clear h; simp only [fin0]) | (with_reducible refine Ob.mk ?_; clear h) | (clear h)
  all_goals (try simp only [eta0, RT.bytes] at *)
  all_goals (try simp only [eta_markC, eta_markS, eta_markSb, eta_markSs, eta_markH, eta_markHb, eta_markHs] at *)
  all_goals (try simp only [markH_state] at *)
  all_goals grind [szN]
noncomputable def sExStoAppendL1 : Sx.Spec := ⟨false, true, [.map, .row .lsto, .int .i64, .int .i64, .row .rcd], [], fun _ _ x => .asrt (fun _ => 1048576 < cntS (x.2.1 ())) (.ret (vB fun _ => true, fun _ => 0))⟩
theorem okExStoAppendL1 : SpecOk1 Tryz.prog 8 sExStoAppendL1 := spec1 tabOk (ss := [(11, sSzS)]) ⟨okSzSl, trivial⟩ rfl rfl <| by
  intro (bs : Th (List Int)) (p : Th Int) ⟨(m : Th PMap), (s : Th LSto), (a : Th Int), (b : Th Int), (r : Th Sx.Rec), u⟩ K _ _ ho h
  obtain ⟨m, rfl⟩ := th_ex m; obtain ⟨s, rfl⟩ := th_ex s; obtain ⟨a, rfl⟩ := th_ex a; obtain ⟨b, rfl⟩ := th_ex b; obtain ⟨r, rfl⟩ := th_ex r
  obtain ⟨ha, h⟩ := h
  have ha := ha.out
  refine ⟨noAnn, noAnn, 20, ?_⟩
  cbv
  repeat' first | ((with_reducible refine fun (k : Nat) => ?_); cbv) | ((with_reducible refine fun (q : Nat × Unit) => ?_); obtain ⟨s, _⟩ := q; cbv) | ((with_reducible refine fun (q : Nat × Nat) => ?_); obtain ⟨s, k⟩ := q; cbv) | ((with_reducible intro _); cbv) | ((with_reducible show _ ∧ _); (with_reducible apply And.intro))
  all_goals first | (refine retK h ?_; clear h; simp only [fin0]) | (with_reducible refine Ob.mk ?_; clear h) | (clear h)
  all_goals (try simp only [eta0, RT.bytes] at *)
  all_goals grind [szN, cntS, cntC]
end Go.Proofs.YtjgijoageljjgaaGreat
