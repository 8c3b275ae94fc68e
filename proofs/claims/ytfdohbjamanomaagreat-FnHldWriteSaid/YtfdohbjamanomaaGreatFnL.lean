/-
  Contracts: a parcel that comes into a cell.
-/
import Derived.Test.YtfdohbjamanomaaGreatFnFb
import Derived.Test.YtfdohbjamanomaaGreatFnK
set_option linter.unusedVariables false
set_option linter.unusedSimpArgs false
namespace Go.Proofs.YtfdohbjamanomaaGreat
open Go.Sx Go.Proofs Go.Mo
set_option maxRecDepth 100000
set_option maxHeartbeats 8000000
set_option linter.unusedSimpArgs false
set_option linter.unusedVariables false

theorem okCllIn : SpecOk1 Tryz.prog 22 sCllIn := spec1 tabOk (ss := [(27, sCllOk), (60, sPclOk), (71, sPlcSide), (52, sCloneC), (112, sPlace), (81, sPlcCell), (119, sWlkPut)]) ⟨okCllOk, okPclOk, okPlcSide, okCloneC, okPlace, okPlcCell, okWlkPut, trivial⟩ rfl rfl <| by
  intro (bs : Th (List Int)) (p : Th Int) ⟨(m : Th PMap), (c : Th Cll), (s : Th Int), (p : Th Pcl), u⟩ K _ _ ho h
  obtain ⟨m, rfl⟩ := th_ex m; obtain ⟨c, rfl⟩ := th_ex c; obtain ⟨s, rfl⟩ := th_ex s; obtain ⟨p, rfl⟩ := th_ex p
  refine ⟨noAnn, noAnn, 20, ?_⟩
  have hps := @plcSide_ne m c.cell s
  have hf := @cllOk_facts m c
  have hlen := @cllOk_len m c
  have hsd := fun h => @cllOk_side m c h s.toNat
  have hpc : pclOk m p = true → 0 ≤ p.n ∧ p.n ≤ 4999 ∧ (p.kind = 1 ∧ p.coins = 0 ∨ p.kind = 2 ∧ 1 ≤ p.coins ∧ p.coins ≤ 9) := by
    intro this
    simp [pclOk] at this
    omega
  cbv
  repeat' first | ((with_reducible refine fun (k : Nat) => ?_); cbv) | ((with_reducible refine fun (q : Nat × Unit) => ?_); obtain ⟨s, _⟩ := q; cbv) | ((with_reducible refine fun (q : Nat × Nat) => ?_); obtain ⟨s, k⟩ := q; cbv) | ((with_reducible intro _); cbv) | ((with_reducible show _ ∧ _); (with_reducible apply And.intro))
  all_goals first | (refine retK h ?_; clear h; simp only [vB, vI, vL, vW, cI, oMap, oWlk, oOrd, oPcl, oRec, oCll, rCll, oSto, oHld, oGst, oArb, oMsg, oSrv, oRow, oNote, oEvt, oOW, oOne, oWld, encMap, encWlk, encOrd, encPcl, encRec, encCll, encSto, encHld, encGst, encArb, encMsg, encSrv, encRow, encNote, encEvt, encOW, encOne, encWld, oAs, rAs, oA, List.map_cons, List.map_nil, C.ownd.injEq, A.list.injEq, heq_eq_eq, SB.val, Prod.mk.injEq, V.one.injEq, V.agg.injEq, V.tup.injEq, List.cons.injEq, C.at.injEq, A.bool.injEq, A.int.injEq, SB.of.injEq, th_eq, thp_eq, and_true, true_and]) | (with_reducible refine Ob.mk ?_; clear h) | (clear h)
  all_goals (try simp only [eta_map, eta_wlk, eta_ord, eta_pcl, eta_cll, eta_rec, eta_sto, eta_hld, eta_gst, eta_arb, eta_msg, eta_srv, eta_row, eta_note, eta_evt, eta_ow, eta_one, eta_wld, Int.toNat_natCast, Nat.succ_eq_add_one, decide_eq_true_eq, decide_eq_false_iff_not, Int.ofNat_lt, Int.ofNat_le, Int.natCast_pos, Bool.not_eq_true', Bool.not_eq_false', castL_self, SB.val, evT, RT.bytes, List.length_append, List.length_cons, List.length_nil] at *)
  all_goals (try have hwg := gwrap (c := c) (p := p) (by assumption) (by assumption))
  all_goals (try simp only [hwg] at *)
  all_goals grind [cllInX, zeroC, cllRecv, insNext, wrap_id, setNth_app]

end Go.Proofs.YtfdohbjamanomaaGreat
