/-
  Contracts: lists and cells compared.
-/
import Derived.Test.YthglmhekdbgonaaFnA
import Derived.Test.YthglmhekdbgonaaM2
set_option linter.unusedVariables false
set_option linter.unusedSimpArgs false
namespace Go.Proofs.Ythglmhekdbgonaa
open Go.Sx Go.Proofs Go.Mo
set_option maxRecDepth 100000
set_option maxHeartbeats 8000000
set_option linter.unusedSimpArgs false
set_option linter.unusedVariables false

noncomputable def sEqW : Sx.Spec := ⟨false, true, [.list .wlk, .list .wlk], [], fun _ _ ⟨a, b, _⟩ => .asrt (fun _ => a () = b ()) (.ret (vB fun _ => true, fun _ => 0))⟩
noncomputable def sEqI : Sx.Spec := ⟨false, true, [.list .int, .list .int], [], fun _ _ ⟨a, b, _⟩ => .asrt (fun _ => a () = b ()) (.ret (vB fun _ => true, fun _ => 0))⟩
noncomputable def sEqP : Sx.Spec := ⟨false, true, [.list .pcl, .list .pcl], [], fun _ _ ⟨a, b, _⟩ => .asrt (fun _ => a () = b ()) (.ret (vB fun _ => true, fun _ => 0))⟩
noncomputable def sEqC : Sx.Spec := ⟨false, true, [.row .cll, .row .cll], [], fun _ _ ⟨a, b, _⟩ => .asrt (fun _ => a () = b ()) (.ret (vB fun _ => true, fun _ => 0))⟩
noncomputable def sMaOk : Sx.Spec := ⟨false, true, [], [], fun _ _ _ => .ret (vB fun _ => true, fun _ => 0)⟩

theorem okMaList : SpecOk1 Try.prog 30 sEqW := spec1 tabOk (ss := []) trivial rfl rfl <| by
  intro (bs : Th (List Int)) (p : Th Int) ⟨(a : Th (List Wlk)), (b : Th (List Wlk)), u⟩ K _ _ ho h
  obtain ⟨a, rfl⟩ := th_ex a; obtain ⟨b, rfl⟩ := th_ex b
  obtain ⟨hpre, h⟩ := h
  have hpre : a = b := hpre.out
  subst hpre
  have hl := okL (ho.1 _ (.head _))
  refine ⟨annL [(30, 4, ⟨Nat, [], fun σ k => σ.t 5 (vI fun _ => (k : Int)), fun _ k _ => k ≤ a.length, fun _ k _ => a.length - k⟩)], noAnn, 20, ?_⟩
  cbv
  repeat' first | ((with_reducible refine fun (k : Nat) => ?_); cbv) | ((with_reducible refine fun (q : Nat × Unit) => ?_); obtain ⟨s, _⟩ := q; cbv) | ((with_reducible refine fun (q : Nat × Nat) => ?_); obtain ⟨s, k⟩ := q; cbv) | ((with_reducible intro _); cbv) | ((with_reducible show _ ∧ _); (with_reducible apply And.intro))
  all_goals try ((first | (with_reducible refine LoopIn.mk ((0 : Nat)) ?_ ?_) | (with_reducible refine LoopBack.mk ((k + 1 : Nat)) ?_ ?_ ?_)) )
  all_goals try ((with_reducible show matchSt _ _); cbv; (try simp only [and_true, true_and]))
  all_goals try (with_reducible show _ ∧ _; (repeat' (with_reducible apply And.intro)))
  all_goals first | (refine retK h ?_; clear h; simp only [vB, vI, vL, vW, cI, oMap, oWlk, oOrd, oPcl, oRec, oCll, rCll, oSto, oHld, oGst, oArb, oMsg, oSrv, oRow, oNote, oEvt, oOW, oOne, oWld, encMap, encWlk, encOrd, encPcl, encRec, encCll, encSto, encHld, encGst, encArb, encMsg, encSrv, encRow, encNote, encEvt, encOW, encOne, encWld, oAs, rAs, oA, List.map_cons, List.map_nil, C.ownd.injEq, A.list.injEq, heq_eq_eq, SB.val, Prod.mk.injEq, V.one.injEq, V.agg.injEq, V.tup.injEq, List.cons.injEq, C.at.injEq, A.bool.injEq, A.int.injEq, SB.of.injEq, th_eq, thp_eq, and_true, true_and]) | (with_reducible refine Ob.mk ?_; clear h) | (clear h)
  all_goals (try simp only [eta_map, eta_wlk, eta_ord, eta_pcl, eta_cll, eta_rec, eta_sto, eta_hld, eta_gst, eta_arb, eta_msg, eta_srv, eta_row, eta_note, eta_evt, eta_ow, eta_one, eta_wld, Int.toNat_natCast, Nat.succ_eq_add_one, decide_eq_true_eq, decide_eq_false_iff_not, Int.ofNat_lt, Int.ofNat_le, Int.natCast_pos, Bool.not_eq_true', Bool.not_eq_false', castL_self, SB.val, evT, RT.bytes, List.length_append, List.length_cons, List.length_nil] at *)
  all_goals grind [wrap_succ]
theorem okMaInts : SpecOk1 Try.prog 31 sEqI := spec1 tabOk (ss := []) trivial rfl rfl <| by
  intro (bs : Th (List Int)) (p : Th Int) ⟨(a : Th (List Int)), (b : Th (List Int)), u⟩ K _ _ ho h
  obtain ⟨a, rfl⟩ := th_ex a; obtain ⟨b, rfl⟩ := th_ex b
  obtain ⟨hpre, h⟩ := h
  have hpre : a = b := hpre.out
  subst hpre
  have hl := okL (ho.1 _ (.head _))
  refine ⟨annL [(31, 4, ⟨Nat, [], fun σ k => σ.t 5 (vI fun _ => (k : Int)), fun _ k _ => k ≤ a.length, fun _ k _ => a.length - k⟩)], noAnn, 20, ?_⟩
  cbv
  repeat' first | ((with_reducible refine fun (k : Nat) => ?_); cbv) | ((with_reducible refine fun (q : Nat × Unit) => ?_); obtain ⟨s, _⟩ := q; cbv) | ((with_reducible refine fun (q : Nat × Nat) => ?_); obtain ⟨s, k⟩ := q; cbv) | ((with_reducible intro _); cbv) | ((with_reducible show _ ∧ _); (with_reducible apply And.intro))
  all_goals try ((first | (with_reducible refine LoopIn.mk ((0 : Nat)) ?_ ?_) | (with_reducible refine LoopBack.mk ((k + 1 : Nat)) ?_ ?_ ?_)) )
  all_goals try ((with_reducible show matchSt _ _); cbv; (try simp only [and_true, true_and]))
  all_goals try (with_reducible show _ ∧ _; (repeat' (with_reducible apply And.intro)))
  all_goals first | (refine retK h ?_; clear h; simp only [vB, vI, vL, vW, cI, oMap, oWlk, oOrd, oPcl, oRec, oCll, rCll, oSto, oHld, oGst, oArb, oMsg, oSrv, oRow, oNote, oEvt, oOW, oOne, oWld, encMap, encWlk, encOrd, encPcl, encRec, encCll, encSto, encHld, encGst, encArb, encMsg, encSrv, encRow, encNote, encEvt, encOW, encOne, encWld, oAs, rAs, oA, List.map_cons, List.map_nil, C.ownd.injEq, A.list.injEq, heq_eq_eq, SB.val, Prod.mk.injEq, V.one.injEq, V.agg.injEq, V.tup.injEq, List.cons.injEq, C.at.injEq, A.bool.injEq, A.int.injEq, SB.of.injEq, th_eq, thp_eq, and_true, true_and]) | (with_reducible refine Ob.mk ?_; clear h) | (clear h)
  all_goals (try simp only [eta_map, eta_wlk, eta_ord, eta_pcl, eta_cll, eta_rec, eta_sto, eta_hld, eta_gst, eta_arb, eta_msg, eta_srv, eta_row, eta_note, eta_evt, eta_ow, eta_one, eta_wld, Int.toNat_natCast, Nat.succ_eq_add_one, decide_eq_true_eq, decide_eq_false_iff_not, Int.ofNat_lt, Int.ofNat_le, Int.natCast_pos, Bool.not_eq_true', Bool.not_eq_false', castL_self, SB.val, evT, RT.bytes, List.length_append, List.length_cons, List.length_nil] at *)
  all_goals grind [wrap_succ]
theorem okMaParcels : SpecOk1 Try.prog 32 sEqP := spec1 tabOk (ss := []) trivial rfl rfl <| by
  intro (bs : Th (List Int)) (p : Th Int) ⟨(a : Th (List Pcl)), (b : Th (List Pcl)), u⟩ K _ _ ho h
  obtain ⟨a, rfl⟩ := th_ex a; obtain ⟨b, rfl⟩ := th_ex b
  obtain ⟨hpre, h⟩ := h
  have hpre : a = b := hpre.out
  subst hpre
  have hl := okL (ho.1 _ (.head _))
  refine ⟨annL [(32, 4, ⟨Nat, [], fun σ k => σ.t 5 (vI fun _ => (k : Int)), fun _ k _ => k ≤ a.length, fun _ k _ => a.length - k⟩)], noAnn, 20, ?_⟩
  cbv
  repeat' first | ((with_reducible refine fun (k : Nat) => ?_); cbv) | ((with_reducible refine fun (q : Nat × Unit) => ?_); obtain ⟨s, _⟩ := q; cbv) | ((with_reducible refine fun (q : Nat × Nat) => ?_); obtain ⟨s, k⟩ := q; cbv) | ((with_reducible intro _); cbv) | ((with_reducible show _ ∧ _); (with_reducible apply And.intro))
  all_goals try ((first | (with_reducible refine LoopIn.mk ((0 : Nat)) ?_ ?_) | (with_reducible refine LoopBack.mk ((k + 1 : Nat)) ?_ ?_ ?_)) )
  all_goals try ((with_reducible show matchSt _ _); cbv; (try simp only [and_true, true_and]))
  all_goals try (with_reducible show _ ∧ _; (repeat' (with_reducible apply And.intro)))
  all_goals first | (refine retK h ?_; clear h; simp only [vB, vI, vL, vW, cI, oMap, oWlk, oOrd, oPcl, oRec, oCll, rCll, oSto, oHld, oGst, oArb, oMsg, oSrv, oRow, oNote, oEvt, oOW, oOne, oWld, encMap, encWlk, encOrd, encPcl, encRec, encCll, encSto, encHld, encGst, encArb, encMsg, encSrv, encRow, encNote, encEvt, encOW, encOne, encWld, oAs, rAs, oA, List.map_cons, List.map_nil, C.ownd.injEq, A.list.injEq, heq_eq_eq, SB.val, Prod.mk.injEq, V.one.injEq, V.agg.injEq, V.tup.injEq, List.cons.injEq, C.at.injEq, A.bool.injEq, A.int.injEq, SB.of.injEq, th_eq, thp_eq, and_true, true_and]) | (with_reducible refine Ob.mk ?_; clear h) | (clear h)
  all_goals (try simp only [eta_map, eta_wlk, eta_ord, eta_pcl, eta_cll, eta_rec, eta_sto, eta_hld, eta_gst, eta_arb, eta_msg, eta_srv, eta_row, eta_note, eta_evt, eta_ow, eta_one, eta_wld, Int.toNat_natCast, Nat.succ_eq_add_one, decide_eq_true_eq, decide_eq_false_iff_not, Int.ofNat_lt, Int.ofNat_le, Int.natCast_pos, Bool.not_eq_true', Bool.not_eq_false', castL_self, SB.val, evT, RT.bytes, List.length_append, List.length_cons, List.length_nil] at *)
  all_goals grind [wrap_succ]
theorem okMaCell : SpecOk1 Try.prog 9 sEqC := spec1 tabOk (ss := [(30, sEqW), (31, sEqI), (32, sEqP)]) ⟨okMaList, okMaInts, okMaParcels, trivial⟩ rfl rfl <| by
  intro (bs : Th (List Int)) (p : Th Int) ⟨(a : Th Cll), (b : Th Cll), u⟩ K _ _ ho h
  obtain ⟨a, rfl⟩ := th_ex a; obtain ⟨b, rfl⟩ := th_ex b
  obtain ⟨hpre, h⟩ := h
  have hpre : a = b := hpre.out
  subst hpre
  have hl := (okCll ho.1).o
  refine ⟨annL [(9, 4, ⟨Nat, [], fun σ k => σ.t 5 (vI fun _ => (k : Int)), fun _ k _ => k ≤ a.outs.length, fun _ k _ => a.outs.length - k⟩)], noAnn, 20, ?_⟩
  cbv
  repeat' first | ((with_reducible refine fun (k : Nat) => ?_); cbv) | ((with_reducible refine fun (q : Nat × Unit) => ?_); obtain ⟨s, _⟩ := q; cbv) | ((with_reducible refine fun (q : Nat × Nat) => ?_); obtain ⟨s, k⟩ := q; cbv) | ((with_reducible intro _); cbv) | ((with_reducible show _ ∧ _); (with_reducible apply And.intro))
  all_goals try ((first | (with_reducible refine LoopIn.mk ((0 : Nat)) ?_ ?_) | (with_reducible refine LoopBack.mk ((k + 1 : Nat)) ?_ ?_ ?_)) )
  all_goals try ((with_reducible show matchSt _ _); cbv; (try simp only [and_true, true_and]))
  all_goals try (with_reducible show _ ∧ _; (repeat' (with_reducible apply And.intro)))
  all_goals first | (refine retK h ?_; clear h; simp only [vB, vI, vL, vW, cI, oMap, oWlk, oOrd, oPcl, oRec, oCll, rCll, oSto, oHld, oGst, oArb, oMsg, oSrv, oRow, oNote, oEvt, oOW, oOne, oWld, encMap, encWlk, encOrd, encPcl, encRec, encCll, encSto, encHld, encGst, encArb, encMsg, encSrv, encRow, encNote, encEvt, encOW, encOne, encWld, oAs, rAs, oA, List.map_cons, List.map_nil, C.ownd.injEq, A.list.injEq, heq_eq_eq, SB.val, Prod.mk.injEq, V.one.injEq, V.agg.injEq, V.tup.injEq, List.cons.injEq, C.at.injEq, A.bool.injEq, A.int.injEq, SB.of.injEq, th_eq, thp_eq, and_true, true_and]) | (with_reducible refine Ob.mk ?_; clear h) | (clear h)
  all_goals (try simp only [eta_map, eta_wlk, eta_ord, eta_pcl, eta_cll, eta_rec, eta_sto, eta_hld, eta_gst, eta_arb, eta_msg, eta_srv, eta_row, eta_note, eta_evt, eta_ow, eta_one, eta_wld, Int.toNat_natCast, Nat.succ_eq_add_one, decide_eq_true_eq, decide_eq_false_iff_not, Int.ofNat_lt, Int.ofNat_le, Int.natCast_pos, Bool.not_eq_true', Bool.not_eq_false', castL_self, SB.val, evT, RT.bytes, List.length_append, List.length_cons, List.length_nil] at *)
  all_goals grind [wrap_succ]
theorem okMaOk : SpecOk1 Try.prog 16 sMaOk := spec1 tabOk (ss := [(53, sPlcOk)]) ⟨okPlcOk, trivial⟩ rfl rfl <| by
  intro (bs : Th (List Int)) (p : Th Int) u K _ _ ho h
  refine ⟨noAnn, noAnn, 20, ?_⟩
  cbv
  repeat' first | ((with_reducible refine fun (k : Nat) => ?_); cbv) | ((with_reducible refine fun (q : Nat × Unit) => ?_); obtain ⟨s, _⟩ := q; cbv) | ((with_reducible refine fun (q : Nat × Nat) => ?_); obtain ⟨s, k⟩ := q; cbv) | ((with_reducible intro _); cbv) | ((with_reducible show _ ∧ _); (with_reducible apply And.intro))
  all_goals first | (refine retK h ?_; clear h; simp only [vB, vI, vL, vW, cI, oMap, oWlk, oOrd, oPcl, oRec, oCll, rCll, oSto, oHld, oGst, oArb, oMsg, oSrv, oRow, oNote, oEvt, oOW, oOne, oWld, encMap, encWlk, encOrd, encPcl, encRec, encCll, encSto, encHld, encGst, encArb, encMsg, encSrv, encRow, encNote, encEvt, encOW, encOne, encWld, oAs, rAs, oA, List.map_cons, List.map_nil, C.ownd.injEq, A.list.injEq, heq_eq_eq, SB.val, Prod.mk.injEq, V.one.injEq, V.agg.injEq, V.tup.injEq, List.cons.injEq, C.at.injEq, A.bool.injEq, A.int.injEq, SB.of.injEq, th_eq, thp_eq, and_true, true_and]) | (with_reducible refine Ob.mk ?_; clear h) | (clear h)
  all_goals (try simp only [eta_map, eta_wlk, eta_ord, eta_pcl, eta_cll, eta_rec, eta_sto, eta_hld, eta_gst, eta_arb, eta_msg, eta_srv, eta_row, eta_note, eta_evt, eta_ow, eta_one, eta_wld, Int.toNat_natCast, Nat.succ_eq_add_one, decide_eq_true_eq, decide_eq_false_iff_not, Int.ofNat_lt, Int.ofNat_le, Int.natCast_pos, Bool.not_eq_true', Bool.not_eq_false', castL_self, SB.val, evT, RT.bytes, List.length_append, List.length_cons, List.length_nil] at *)
  all_goals grind [plcOk]

end Go.Proofs.Ythglmhekdbgonaa
