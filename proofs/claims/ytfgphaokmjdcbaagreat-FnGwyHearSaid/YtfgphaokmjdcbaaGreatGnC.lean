/-
  Contracts: messages.
-/
import Derived.Test.YtfgphaokmjdcbaaGreatGnB
set_option linter.unusedVariables false
set_option linter.unusedSimpArgs false
namespace Go.Proofs.YtfgphaokmjdcbaaGreat
open Go.Sx Go.Proofs Go.Mo
set_option maxRecDepth 100000
set_option maxHeartbeats 4000000
set_option linter.unusedSimpArgs false
set_option linter.unusedVariables false

noncomputable def sMsgOk : Sx.Spec := ⟨false, true, [.map, .int .i64, .row .msg], [], fun _ _ ⟨m, s, x, _⟩ => .ret (vB fun _ => msgOk (m ()) (s ()) (x ()), fun _ => 0)⟩

theorem okMsgOk : SpecOk1 Tryz.prog 28 sMsgOk := spec1 tabOk (ss := [(57, sPlcOk), (55, sIn), (54, sHasCell), (82, sPlcSide), (56, sOrdOk), (83, sPclOk), (84, sGstOk)]) ⟨okPlcOk, okIn, okHasCell, okPlcSide, okOrdOk, okPclOk, okGstOk, trivial⟩ rfl rfl <| by
  intro (bs : Th (List Int)) (p : Th Int) ⟨(m : Th PMap), (s : Th Int), (x : Th Msg), u⟩ K _ _ ho h
  obtain ⟨m, rfl⟩ := th_ex m; obtain ⟨s, rfl⟩ := th_ex s; obtain ⟨x, rfl⟩ := th_ex x
  have hps := @plcSide_ne m x.cell x.side
  refine ⟨noAnn, noAnn, 20, ?_⟩
  cbv
  repeat' first | ((with_reducible intro _); cbv) | ((with_reducible show _ ∧ _); (with_reducible apply And.intro))
  all_goals first | (refine retK h ?_; clear h; simp only [fin0]) | (with_reducible refine Ob.mk ?_; clear h) | (clear h)
  all_goals (try simp only [eta0, RT.bytes] at *)
  all_goals grind (splits := 40) [msgOk, msgKind, inR, zeroO, zeroP, zeroW, zeroGs, wrap_id, plcOk]
theorem okSMsgOk : SpecOk1 Tryz.prog 15 sMsgOk := spec1 tabOk (ss := [(45, sPlcOk), (47, sIn), (48, sPlcSide), (50, sOrdOk), (51, sPclOk), (52, sGstOk)]) ⟨okSPlcOk, okL1In, okSPlcSide, okSOrdOk, okSPclOk, okSGstOk, trivial⟩ rfl rfl <| by
  intro (bs : Th (List Int)) (p : Th Int) ⟨(m : Th PMap), (s : Th Int), (x : Th Msg), u⟩ K _ _ ho h
  obtain ⟨m, rfl⟩ := th_ex m; obtain ⟨s, rfl⟩ := th_ex s; obtain ⟨x, rfl⟩ := th_ex x
  have hps := @plcSide_ne m x.cell x.side
  refine ⟨noAnn, noAnn, 20, ?_⟩
  cbv
  repeat' first | ((with_reducible intro _); cbv) | ((with_reducible show _ ∧ _); (with_reducible apply And.intro))
  all_goals first | (refine retK h ?_; clear h; simp only [fin0]) | (with_reducible refine Ob.mk ?_; clear h) | (clear h)
  all_goals (try simp only [eta0, RT.bytes] at *)
  all_goals grind (splits := 40) [msgOk, msgKind, inR, zeroO, zeroP, zeroW, zeroGs, wrap_id, plcOk]
end Go.Proofs.YtfgphaokmjdcbaaGreat
