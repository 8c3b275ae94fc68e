/-
  Contracts: messages.
-/
import Derived.Test.YtjdaiobeiimpfaaGreatGnF
set_option linter.unusedVariables false
set_option linter.unusedSimpArgs false
set_option maxRecDepth 100000
set_option maxHeartbeats 4000000
namespace Go.Proofs.YtjdaiobeiimpfaaGreat
open Go.Sx Go.Proofs Go.Mo
noncomputable def sMsgOk : Sx.Spec := ⟨false, true, [.map, .int .i64, .row .msg], [], fun _ _ ⟨m, s, x, _⟩ => .ret (vB fun _ => msgOk (m ()) (s ()) (x ()), fun _ => 0)⟩
theorem okMsgOk : SpecOk1 Tryz.prog 49 sMsgOk := spec1 tabOk (ss := [(41, sPlcOk), (53, sIn), (88, sHasCell), (93, sPlcSide), (89, sOrdOk), (94, sPclOk), (95, sGstOk)]) ⟨okPlcOk, okIn, okHasCell, okPlcSide, okOrdOk, okPclOk, okGstOk, trivial⟩ rfl rfl <| by
 intro (bs : Th (List Int)) (p : Th Int) ⟨(m : Th PMap), (s : Th Int), (x : Th Msg), u⟩ K _ _ ho h
 obtain ⟨m, rfl⟩ := th_ex m; obtain ⟨s, rfl⟩ := th_ex s; obtain ⟨x, rfl⟩ := th_ex x
 have hps := @plcSide_ne m x.cell x.side
 refine ⟨noAnn, noAnn, 20, ?_⟩
 cbv
 repeat' first | ((with_reducible intro _); cbv) | (with_reducible refine And.intro ?_ ?_)
 all_goals first | (refine retK h ?_; clear h; simp only [fin0]) | (with_reducible refine Ob.mk ?_; clear h) | (clear h)
 all_goals (try simp only [eta0, RT.bytes] at *)
 all_goals grind (splits := 40) [msgOk, msgKind, inR, zeroO, zeroP, zeroW, zeroGs, wrap_id, plcOk]
theorem okSMsgOk : SpecOk1 Tryz.prog 85 sMsgOk := spec1 tabOk (ss := [(34, sPlcOk), (75, sIn), (129, sPlcSide), (116, sOrdOk), (131, sPclOk), (132, sGstOk)]) ⟨okSPlcOk, okL1In, okSPlcSide, okSOrdOk, okSPclOk, okSGstOk, trivial⟩ rfl rfl <| by
 intro (bs : Th (List Int)) (p : Th Int) ⟨(m : Th PMap), (s : Th Int), (x : Th Msg), u⟩ K _ _ ho h
 obtain ⟨m, rfl⟩ := th_ex m; obtain ⟨s, rfl⟩ := th_ex s; obtain ⟨x, rfl⟩ := th_ex x
 have hps := @plcSide_ne m x.cell x.side
 refine ⟨noAnn, noAnn, 20, ?_⟩
 cbv
 repeat' first | ((with_reducible intro _); cbv) | (with_reducible refine And.intro ?_ ?_)
 all_goals first | (refine retK h ?_; clear h; simp only [fin0]) | (with_reducible refine Ob.mk ?_; clear h) | (clear h)
 all_goals (try simp only [eta0, RT.bytes] at *)
 all_goals grind (splits := 40) [msgOk, msgKind, inR, zeroO, zeroP, zeroW, zeroGs, wrap_id, plcOk]
end Go.Proofs.YtjdaiobeiimpfaaGreat
