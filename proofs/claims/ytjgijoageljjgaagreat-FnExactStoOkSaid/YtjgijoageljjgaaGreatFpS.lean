/-
  The law FnExactStoOk: StoOk is the reference's.
-/
import Derived.Test.YtjgijoageljjgaaGreatFpA
import Derived.Test.YtjgijoageljjgaaGreatFpB
import Derived.Test.YtjgijoageljjgaaGreatFpC
import Derived.Test.YtjgijoageljjgaaGreatFoD
import Derived.Test.YtjgijoageljjgaaGreatLwX
set_option linter.unusedVariables false
set_option linter.unusedSimpArgs false
namespace Go.Mo
open Go.Sx
theorem mem_usumL {x : List Unit} : ∀ {l : List (List Unit)}, x ∈ l → x.length ≤ usumL l
  | y :: l, h => by
    rcases List.mem_cons.1 h with rfl | h
    · simp only [usumL]; omega
    · have := mem_usumL h
      simp only [usumL]; omega
theorem big_C {c : LCll} (h : ¬ fitC c) : 1048576 < cntC c := by
  refine Nat.lt_of_not_le fun hle => h ?_
  unfold cntC at hle
  refine ⟨?_, ⟨?_, fun x hx => ?_⟩, ?_, ?_⟩
  · show c.wlks.length ≤ _; omega
  · omega
  · have := mem_usumL hx; omega
  · show c.next.length ≤ _; omega
  · show c.ins.length ≤ _; omega
theorem big_S {c : LSto} (h : ¬ fitS c) : 1048576 < cntS c := by
  refine Nat.lt_of_not_le fun hle => h ?_
  unfold cntS at hle
  refine ⟨?_, ?_⟩
  · by_cases hc : fitC c.base
    · exact hc
    · have := big_C hc; omega
  · show c.recs.length ≤ _; omega
end Go.Mo
namespace Go.Proofs.YtjgijoageljjgaaGreat
open Go.Sx Go.Proofs Go.Mo
set_option maxRecDepth 100000
set_option maxHeartbeats 8000000
set_option linter.unusedSimpArgs false
set_option linter.unusedVariables false

noncomputable def sExStoOk : Sx.Spec := ⟨false, true, [.map, .row .sto], [], fun _ _ x => .asrt (fun _ => True) (.ret (vB fun _ => true, fun _ => 0))⟩
noncomputable def sExStoOkL : Sx.Spec := ⟨false, true, [.map, .row .lsto], [], fun _ _ x => .asrt (fun _ => 1048576 < cntS (x.2.1 ())) (.ret (vB fun _ => true, fun _ => 0))⟩

theorem okExStoOk : SpecOk1 Tryz.prog 3 sExStoOk := spec1 tabOk (ss := [(11, sSzA (.row .sto)), (13, sToM), (14, sToS), (12, sStoOk), (15, sStoOk), (16, sIsS)]) ⟨okSzS, okToM, okToS, okSStoOk, okStoOk, okEqS, trivial⟩ rfl rfl <| by
  intro (bs : Th (List Int)) (p : Th Int) ⟨(m : Th PMap), (s : Th Sto), u⟩ K _ _ ho h
  obtain ⟨m, rfl⟩ := th_ex m; obtain ⟨s, rfl⟩ := th_ex s
  obtain ⟨ha, h⟩ := h
  refine ⟨noAnn, noAnn, 20, ?_⟩
  cbv
  repeat' first | ((with_reducible refine fun (k : Nat) => ?_); cbv) | ((with_reducible refine fun (q : Nat × Unit) => ?_); obtain ⟨s, _⟩ := q; cbv) | ((with_reducible refine fun (q : Nat × Nat) => ?_); obtain ⟨s, k⟩ := q; cbv) | ((with_reducible intro _); cbv) | ((with_reducible show _ ∧ _); (with_reducible apply And.intro))
  all_goals first | (refine retK h ?_; clear h; simp only [vB, vI, vL, vW, cI, oMap, oWlk, oOrd, oPcl, oRec, oCll, rCll, oSto, oHld, oGst, oArb, oMsg, oSrv, oRow, oNote, oEvt, oOW, oOne, oWld, encMap, encWlk, encOrd, encPcl, encRec, encCll, encSto, encHld, encGst, encArb, encMsg, encSrv, encRow, encNote, encEvt, encOW, encOne, encWld, oAs, rAs, oA, List.map_cons, List.map_nil, C.ownd.injEq, A.list.injEq, heq_eq_eq, SB.val, Prod.mk.injEq, V.one.injEq, V.agg.injEq, V.tup.injEq, List.cons.injEq, C.at.injEq, A.bool.injEq, A.int.injEq, SB.of.injEq, th_eq, thp_eq, and_true, true_and]) | (with_reducible refine Ob.mk ?_; clear h) | (clear h)
  all_goals (try simp only [eta_map, eta_wlk, eta_ord, eta_pcl, eta_cll, eta_rec, eta_sto, eta_hld, eta_gst, eta_arb, eta_msg, eta_srv, eta_row, eta_note, eta_evt, eta_ow, eta_one, eta_wld, Int.toNat_natCast, Nat.succ_eq_add_one, decide_eq_true_eq, decide_eq_false_iff_not, Int.ofNat_lt, Int.ofNat_le, Int.natCast_pos, Bool.not_eq_true', Bool.not_eq_false', castL_self, SB.val, evT, RT.bytes, List.length_append, List.length_cons, List.length_nil] at *)
  all_goals grind
theorem okExStoOkL : SpecOk1 Tryz.prog 3 sExStoOkL := spec1 tabOk (ss := [(11, sSzS)]) ⟨okSzSl, trivial⟩ rfl rfl <| by
  intro (bs : Th (List Int)) (p : Th Int) ⟨(m : Th PMap), (s : Th LSto), u⟩ K _ _ ho h
  obtain ⟨m, rfl⟩ := th_ex m; obtain ⟨s, rfl⟩ := th_ex s
  obtain ⟨ha, h⟩ := h
  have ha := ha.out
  refine ⟨noAnn, noAnn, 20, ?_⟩
  cbv
  repeat' first | ((with_reducible refine fun (k : Nat) => ?_); cbv) | ((with_reducible refine fun (q : Nat × Unit) => ?_); obtain ⟨s, _⟩ := q; cbv) | ((with_reducible refine fun (q : Nat × Nat) => ?_); obtain ⟨s, k⟩ := q; cbv) | ((with_reducible intro _); cbv) | ((with_reducible show _ ∧ _); (with_reducible apply And.intro))
  all_goals first | (refine retK h ?_; clear h; simp only [vB, vI, vL, vW, cI, oMap, oWlk, oOrd, oPcl, oRec, oCll, rCll, oSto, oHld, oGst, oArb, oMsg, oSrv, oRow, oNote, oEvt, oOW, oOne, oWld, encMap, encWlk, encOrd, encPcl, encRec, encCll, encSto, encHld, encGst, encArb, encMsg, encSrv, encRow, encNote, encEvt, encOW, encOne, encWld, oAs, rAs, oA, List.map_cons, List.map_nil, C.ownd.injEq, A.list.injEq, heq_eq_eq, SB.val, Prod.mk.injEq, V.one.injEq, V.agg.injEq, V.tup.injEq, List.cons.injEq, C.at.injEq, A.bool.injEq, A.int.injEq, SB.of.injEq, th_eq, thp_eq, and_true, true_and]) | (with_reducible refine Ob.mk ?_; clear h) | (clear h)
  all_goals (try simp only [eta_map, eta_wlk, eta_ord, eta_pcl, eta_cll, eta_rec, eta_sto, eta_hld, eta_gst, eta_arb, eta_msg, eta_srv, eta_row, eta_note, eta_evt, eta_ow, eta_one, eta_wld, Int.toNat_natCast, Nat.succ_eq_add_one, decide_eq_true_eq, decide_eq_false_iff_not, Int.ofNat_lt, Int.ofNat_le, Int.natCast_pos, Bool.not_eq_true', Bool.not_eq_false', castL_self, SB.val, evT, RT.bytes, List.length_append, List.length_cons, List.length_nil] at *)
  all_goals grind [szN, cntS, cntC]

end Go.Proofs.YtjgijoageljjgaaGreat
