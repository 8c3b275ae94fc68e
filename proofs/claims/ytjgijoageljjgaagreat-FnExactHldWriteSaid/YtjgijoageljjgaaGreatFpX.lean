/-
  The law FnExactHldWrite: HldWrite is the reference's.
-/
import Derived.Test.YtjgijoageljjgaaGreatFpN
import Derived.Test.YtjgijoageljjgaaGreatFpA
import Derived.Test.YtjgijoageljjgaaGreatFpB
import Derived.Test.YtjgijoageljjgaaGreatFpC
import Derived.Test.YtjgijoageljjgaaGreatFpD
import Derived.Test.YtjgijoageljjgaaGreatFoK
import Derived.Test.YtjgijoageljjgaaGreatFoHs
set_option linter.unusedVariables false
set_option linter.unusedSimpArgs false
namespace Go.Proofs.YtjgijoageljjgaaGreat
open Go.Sx Go.Proofs Go.Mo
set_option maxRecDepth 100000
set_option maxHeartbeats 40000000
set_option linter.unusedSimpArgs false
set_option linter.unusedVariables false

noncomputable def sExHldWrite : Sx.Spec := ⟨false, true, [.map, .row .hld, .row .sto, .row .rcd], [], fun _ _ x => .asrt (fun _ => True) (.ret (vB fun _ => true, fun _ => 0))⟩
theorem okExHldWrite : SpecOk1 Tryz.prog 10 sExHldWrite := spec1 tabOk (ss := [(13, sToM), (44, sCnH), (46, sToH), (41, sIsH), (42, muX sMkH), (11, sCnS), (14, sToS), (16, sIsS), (33, muX sMkS), (20, sToR), (43, sHdH), (36, sHdS), (45, sHldWrite), (47, sHldWrite)]) ⟨okToM, okCnH, okToH, okEqH, okMkH, okCnS, okToS, okEqS, okMkS, okToR, okHdH, okHdS, okSHldWrite, okHldWrite, trivial⟩ rfl rfl <| by
  intro (bs : Th (List Int)) (p : Th Int) ⟨(m : Th PMap), (h0 : Th Hld), (s : Th Sto), (r : Th Sx.Rec), u⟩ K _ _ ho h
  obtain ⟨m, rfl⟩ := th_ex m; obtain ⟨h0, rfl⟩ := th_ex h0; obtain ⟨s, rfl⟩ := th_ex s; obtain ⟨r, rfl⟩ := th_ex r
  obtain ⟨ha, h⟩ := h
  have f0 := @cntX_fit h0.state 1048576
  have f1 := @cntT_fit s 1048576
  have g1 := @fitT.b s
  have g2 := @fitT.r s
  have f2 := write_fitS m h0 s r
  have e2 := write_fitH m h0 s r
  have f3 := markS_mkd (endC 1 (hldWrite m h0 s r).h.state) (hldWrite m h0 s r).s
  have f4 := endS_mark (endC 1 (hldWrite m h0 s r).h.state) (hldWrite m h0 s r).s
  have f5 := markS_fit (k := endC 1 (hldWrite m h0 s r).h.state) f2
  have f2b := f2.b
  have f2r := f2.r
  have f5b := f5.b
  have f5r := f5.r
  have f6 := endS_ge (endC 1 h0.state) s
  have f7 := endS_ge (endC 1 (hldWrite m h0 s r).h.state) (hldWrite m h0 s r).s
  have e3 := markC_mkd 1 (hldWrite m h0 s r).h.state
  have e4 := endC_mark 1 (hldWrite m h0 s r).h.state
  have e5 := markC_fit (k := 1) e2
  have e6 := endC_ge 1 h0.state
  have e9 := @endC_le 1 h0.state
  have e7 := endC_ge 1 (hldWrite m h0 s r).h.state
  have e8 := @endC_le 1 (hldWrite m h0 s r).h.state e2
  refine ⟨noAnn, noAnn, 20, ?_⟩
  cbv
  repeat' first | ((with_reducible refine fun (k : Nat) => ?_); cbv) | ((with_reducible refine fun (q : Nat × Unit) => ?_); obtain ⟨s, _⟩ := q; cbv) | ((with_reducible refine fun (q : Nat × Nat) => ?_); obtain ⟨s, k⟩ := q; cbv) | ((with_reducible intro _); cbv) | ((with_reducible show _ ∧ _); (with_reducible apply And.intro))
  all_goals first | (refine retK h ?_; clear h; simp only [fin0]) | (with_reducible refine Ob.mk ?_; clear h) | (clear h)
  all_goals (try simp only [eta0, RT.bytes] at *)
  all_goals (try simp only [eta_markC, eta_markS, eta_markSb, eta_markSs, eta_markH, eta_markHb, eta_markHs] at *)
  all_goals (try simp only [markH_state] at *)
  all_goals grind [szN]
noncomputable def sExHldWriteL1 : Sx.Spec := ⟨false, true, [.map, .row .lhld, .row .lsto, .row .rcd], [], fun _ _ x => .asrt (fun _ => 1048576 < cntC (x.2.1 ()).state) (.ret (vB fun _ => true, fun _ => 0))⟩
theorem okExHldWriteL1 : SpecOk1 Tryz.prog 10 sExHldWriteL1 := spec1 tabOk (ss := [(44, sSzH)]) ⟨okSzHl, trivial⟩ rfl rfl <| by
  intro (bs : Th (List Int)) (p : Th Int) ⟨(m : Th PMap), (h0 : Th LHld), (s : Th LSto), (r : Th Sx.Rec), u⟩ K _ _ ho h
  obtain ⟨m, rfl⟩ := th_ex m; obtain ⟨h0, rfl⟩ := th_ex h0; obtain ⟨s, rfl⟩ := th_ex s; obtain ⟨r, rfl⟩ := th_ex r
  obtain ⟨ha, h⟩ := h
  have ha := ha.out
  refine ⟨noAnn, noAnn, 20, ?_⟩
  cbv
  repeat' first | ((with_reducible refine fun (k : Nat) => ?_); cbv) | ((with_reducible refine fun (q : Nat × Unit) => ?_); obtain ⟨s, _⟩ := q; cbv) | ((with_reducible refine fun (q : Nat × Nat) => ?_); obtain ⟨s, k⟩ := q; cbv) | ((with_reducible intro _); cbv) | ((with_reducible show _ ∧ _); (with_reducible apply And.intro))
  all_goals first | (refine retK h ?_; clear h; simp only [fin0]) | (with_reducible refine Ob.mk ?_; clear h) | (clear h)
  all_goals (try simp only [eta0, RT.bytes] at *)
  all_goals grind [szN, cntS, cntC]
noncomputable def sExHldWriteL2 : Sx.Spec := ⟨false, true, [.map, .row .hld, .row .lsto, .row .rcd], [], fun _ _ x => .asrt (fun _ => 1048576 < cntS (x.2.2.1 ())) (.ret (vB fun _ => true, fun _ => 0))⟩
theorem okExHldWriteL2 : SpecOk1 Tryz.prog 10 sExHldWriteL2 := spec1 tabOk (ss := [(44, sCnH), (11, sSzS)]) ⟨okCnH, okSzSl, trivial⟩ rfl rfl <| by
  intro (bs : Th (List Int)) (p : Th Int) ⟨(m : Th PMap), (h0 : Th Hld), (s : Th LSto), (r : Th Sx.Rec), u⟩ K _ _ ho h
  obtain ⟨m, rfl⟩ := th_ex m; obtain ⟨h0, rfl⟩ := th_ex h0; obtain ⟨s, rfl⟩ := th_ex s; obtain ⟨r, rfl⟩ := th_ex r
  obtain ⟨ha, h⟩ := h
  have ha := ha.out
  refine ⟨noAnn, noAnn, 20, ?_⟩
  cbv
  repeat' first | ((with_reducible refine fun (k : Nat) => ?_); cbv) | ((with_reducible refine fun (q : Nat × Unit) => ?_); obtain ⟨s, _⟩ := q; cbv) | ((with_reducible refine fun (q : Nat × Nat) => ?_); obtain ⟨s, k⟩ := q; cbv) | ((with_reducible intro _); cbv) | ((with_reducible show _ ∧ _); (with_reducible apply And.intro))
  all_goals first | (refine retK h ?_; clear h; simp only [fin0]) | (with_reducible refine Ob.mk ?_; clear h) | (clear h)
  all_goals (try simp only [eta0, RT.bytes] at *)
  all_goals grind [szN, cntS, cntC]
end Go.Proofs.YtjgijoageljjgaaGreat
