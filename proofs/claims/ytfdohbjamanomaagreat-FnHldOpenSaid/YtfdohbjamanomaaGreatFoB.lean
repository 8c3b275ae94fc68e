/-
  The law: a record does what it says.
-/
import Derived.Test.YtfdohbjamanomaaGreatFoA
import Derived.Test.YtfdohbjamanomaaGreatFoU
import Derived.Test.YtfdohbjamanomaaGreatFnX
import Derived.Test.YtfdohbjamanomaaGreatFnG
set_option linter.unusedVariables false
set_option linter.unusedSimpArgs false
namespace Go.Proofs.YtfdohbjamanomaaGreat
open Go.Sx Go.Proofs Go.Mo
set_option maxRecDepth 100000
set_option maxHeartbeats 8000000
set_option linter.unusedSimpArgs false
set_option linter.unusedVariables false

noncomputable def sLawA : Sx.Spec := ⟨false, true, [.list .byte], [], fun _ _ _ => .ret (vB fun _ => true, fun _ => 0)⟩
noncomputable def sOkTrue : Sx.Spec := ⟨false, true, [], [], fun _ _ _ => .ret (vB fun _ => true, fun _ => 0)⟩
theorem okTrue : SpecOk1 Tryz.prog 19 sOkTrue := spec1 tabOk (ss := [(58, sPlcOk)]) ⟨okPlcOk, trivial⟩ rfl rfl <| by
  intro (bs : Th (List Int)) (p : Th Int) u K _ _ ho h
  refine ⟨noAnn, noAnn, 20, ?_⟩
  cbv
  repeat' first | ((with_reducible refine fun (k : Nat) => ?_); cbv) | ((with_reducible refine fun (q : Nat × Unit) => ?_); obtain ⟨s, _⟩ := q; cbv) | ((with_reducible refine fun (q : Nat × Nat) => ?_); obtain ⟨s, k⟩ := q; cbv) | ((with_reducible intro _); cbv) | ((with_reducible show _ ∧ _); (with_reducible apply And.intro))
  all_goals first | (refine retK h ?_; clear h; simp only [fin0]) | (with_reducible refine Ob.mk ?_; clear h) | (clear h)
  all_goals (try simp only [eta0, RT.bytes] at *)
  all_goals grind [plcOk]
noncomputable def sDrawApply : Sx.Spec := ⟨false, false, [.list .byte], [[none, none], nCll, [none, none, none, none, none, none, none, none, none, none, none, none, none, none, none, none]], fun _ _ _ => .all Int fun x => .all Int fun y => .all Int fun a => .all (List Wlk) fun b => .all Int fun c => .all (List (List Pcl)) fun d => .all (List Int) fun e => .all (List Int) fun f => .all Int fun x0 => .all Int fun x1 => .all Int fun x2 => .all Int fun x3 => .all Int fun x4 => .all Int fun x5 => .all Int fun x6 => .all Int fun x7 => .all Int fun x8 => .all Int fun x9 => .all Int fun x10 => .all Int fun x11 => .all Int fun x12 => .all Int fun x13 => .all Int fun x14 => .all Int fun x15 => .ret (.tup [.agg [cI x, cI y], rC a b c d e f, .agg [cI x0, cI x1, cI x2, cI x3, cI x4, cI x5, cI x6, cI x7, cI x8, cI x9, cI x10, cI x11, cI x12, cI x13, cI x14, cI x15]], fun _ => 0)⟩
theorem okDrawApply : SpecOk1 Tryz.prog 12 sDrawApply := spec1 tabOk (ss := [(50, sAnyCell), (51, sAnyRec)]) ⟨okAnyCell, okAnyRec, trivial⟩ rfl rfl <| by
  intro (bs : Th (List Int)) (p : Th Int) ⟨(l : Th (List Int)), u⟩ K hb hp0 ho h
  obtain ⟨l, rfl⟩ := th_ex l
  refine ⟨noAnn, noAnn, 20, ?_⟩
  cbv
  repeat' first | ((with_reducible refine fun (k : Nat) => ?_); cbv) | ((with_reducible refine fun (q : Nat × Unit) => ?_); obtain ⟨s, _⟩ := q; cbv) | ((with_reducible refine fun (q : Nat × Nat) => ?_); obtain ⟨s, k⟩ := q; cbv) | ((with_reducible intro _); cbv) | ((with_reducible show _ ∧ _); (with_reducible apply And.intro))
  all_goals first | (refine retK (h _ _ _ _ _ _ _ _ _ _ _ _ _ _ _ _ _ _ _ _ _ _ _ _) rfl; clear h) | (refine retK (h _ _ _ _ _ _ _ _ _ _ _ _ _ _ _ _ _ _ _ _ _ _ _ _) rfl) | (with_reducible refine Ob.mk ?_; clear h) | (clear h)
  all_goals (try simp only [eta0, RT.bytes] at *)
  all_goals (try simp only [List.length_take] at *)
  all_goals first | omega | grind [wrap_id]
theorem okLawApply : SpecOk1 Tryz.prog 3 sLawA := spec1 tabOk (ss := [(12, sDrawApply), (13, sLogApply), (14, sLogApply), (15, sIsC), (16, sLogOk), (17, sLogOk), (18, sCllOk), (19, sOkTrue), (20, sCllDo), (21, sFreshX), (22, sCllIn), (23, sCllAck)])
    ⟨okDrawApply, okLogApply, okSLogApply, okIsCell, okLogOk, okSLogOk, okSCllOk, okTrue, okCllDo, okCllFresh, okCllIn, okCllAck, trivial⟩ rfl rfl <| by
  intro (bs : Th (List Int)) (p : Th Int) ⟨(a : Th (List Int)), u⟩ K _ _ ho h
  obtain ⟨a, rfl⟩ := th_ex a
  refine ⟨noAnn, noAnn, 20, ?_⟩
  cbv
  repeat' first | ((with_reducible refine fun (k : Nat) => ?_); cbv) | ((with_reducible refine fun (q : Nat × Unit) => ?_); obtain ⟨s, _⟩ := q; cbv) | ((with_reducible refine fun (q : Nat × Nat) => ?_); obtain ⟨s, k⟩ := q; cbv) | ((with_reducible intro _); cbv) | ((with_reducible show _ ∧ _); (with_reducible apply And.intro))
  all_goals first | (refine retK h ?_; clear h; simp only [fin0]) | (with_reducible refine Ob.mk ?_; clear h) | (clear h)
  all_goals (try simp only [eta0, RT.bytes] at *)
  all_goals grind [ap_bad, ap_no, ap_do, ap_in, ap_ack, zeroC]

end Go.Proofs.YtfdohbjamanomaaGreat
