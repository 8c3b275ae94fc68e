/-
  Contracts: what is drawn for an order in a cell, for a parcel that comes.
-/
import Derived.Test.YthglmhekdbgonaaFnR
set_option linter.unusedVariables false
set_option linter.unusedSimpArgs false
namespace Go.Proofs.Ythglmhekdbgonaa
open Go.Sx Go.Proofs Go.Mo
set_option maxRecDepth 100000
set_option maxHeartbeats 8000000
set_option linter.unusedSimpArgs false
set_option linter.unusedVariables false

noncomputable def sDo : Sx.Spec := ⟨true, false, [], [[none, none], nCll, [none, none, none, none, none]], fun _ p _ => .asrt (fun _ => 0 ≤ p () ∧ p () ≤ 999999960000) (.all Int fun x => .all Int fun y => .all Int fun a => .all (List Wlk) fun b => .all Int fun c => .all (List (List Pcl)) fun d => .all (List Int) fun e => .all (List Int) fun f => .all Int fun o1 => .all Int fun o2 => .all Int fun o3 => .all Int fun o4 => .all Int fun o5 => .all Int fun q => .asm (fun _ => p () ≤ q ∧ q ≤ p () + 5000) (.ret (.tup [.agg [cI x, cI y], rC a b c d e f, .agg [cI o1, cI o2, cI o3, cI o4, cI o5]], fun _ => q)))⟩
noncomputable def sDrawDo : Sx.Spec := ⟨false, false, [.list .byte], [[none, none], nCll, [none, none, none, none, none]], fun _ _ _ => .all Int fun x => .all Int fun y => .all Int fun a => .all (List Wlk) fun b => .all Int fun c => .all (List (List Pcl)) fun d => .all (List Int) fun e => .all (List Int) fun f => .all Int fun o1 => .all Int fun o2 => .all Int fun o3 => .all Int fun o4 => .all Int fun o5 => .ret (.tup [.agg [cI x, cI y], rC a b c d e f, .agg [cI o1, cI o2, cI o3, cI o4, cI o5]], fun _ => 0)⟩
noncomputable def sDrawIn : Sx.Spec := ⟨false, false, [.list .byte], [[none, none], nCll, [none], [none, none, none, none, none, none, none, none]], fun _ _ _ => .all Int fun x => .all Int fun y => .all Int fun a => .all (List Wlk) fun b => .all Int fun c => .all (List (List Pcl)) fun d => .all (List Int) fun e => .all (List Int) fun f => .all Int fun s => .all Int fun o1 => .all Int fun o2 => .all Int fun o3 => .all Int fun o4 => .all Int fun o5 => .all Int fun o6 => .all Int fun o7 => .all Int fun o8 => .ret (.tup [.agg [cI x, cI y], rC a b c d e f, vI fun _ => s, .agg [cI o1, cI o2, cI o3, cI o4, cI o5, cI o6, cI o7, cI o8]], fun _ => 0)⟩

theorem okDo : SpecOk1 Try.prog 24 sDo := spec1 tabOk (ss := [(33, sAnyCell), (34, sRecOf), (59, sAnyOrder)]) ⟨okAnyCell, okRecOf, okAnyOrder, trivial⟩ rfl rfl <| by
  intro (bs : Th (List Int)) (p : Th Int) u K hb hp0 ho h
  obtain ⟨bs, rfl⟩ := th_ex bs; obtain ⟨p, rfl⟩ := th_ex p
  obtain ⟨hpre, h⟩ := h
  have hpre : 0 ≤ p ∧ p ≤ 999999960000 := hpre.out
  refine ⟨noAnn, noAnn, 20, ?_⟩
  cbv
  repeat' first | ((with_reducible refine fun (k : Nat) => ?_); cbv) | ((with_reducible refine fun (q : Nat × Unit) => ?_); obtain ⟨s, _⟩ := q; cbv) | ((with_reducible refine fun (q : Nat × Nat) => ?_); obtain ⟨s, k⟩ := q; cbv) | ((with_reducible intro _); cbv) | ((with_reducible show _ ∧ _); (with_reducible apply And.intro))
  all_goals first | (refine retK (h _ _ _ _ _ _ _ _ _ _ _ _ _ _ ?_) rfl; clear h) | (with_reducible refine Ob.mk ?_; clear h) | (clear h)
  all_goals (try simp only [eta_map, eta_wlk, eta_ord, eta_pcl, eta_cll, eta_rec, eta_sto, eta_hld, eta_gst, eta_arb, eta_msg, eta_srv, eta_row, eta_note, eta_evt, eta_ow, eta_one, eta_wld, Int.toNat_natCast, Nat.succ_eq_add_one, decide_eq_true_eq, decide_eq_false_iff_not, Int.ofNat_lt, Int.ofNat_le, Int.natCast_pos, Bool.not_eq_true', Bool.not_eq_false', castL_self, SB.val, evT, RT.bytes, List.length_append, List.length_cons, List.length_nil] at *)
  all_goals first | omega | grind [wrap_id]
theorem okDrawDo : SpecOk1 Try.prog 6 sDrawDo := spec1 tabOk (ss := [(24, sDo)]) ⟨okDo, trivial⟩ rfl rfl <| by
  intro (bs : Th (List Int)) (p : Th Int) ⟨(l : Th (List Int)), u⟩ K hb hp0 ho h
  obtain ⟨l, rfl⟩ := th_ex l
  refine ⟨noAnn, noAnn, 20, ?_⟩
  cbv
  repeat' first | ((with_reducible refine fun (k : Nat) => ?_); cbv) | ((with_reducible refine fun (q : Nat × Unit) => ?_); obtain ⟨s, _⟩ := q; cbv) | ((with_reducible refine fun (q : Nat × Nat) => ?_); obtain ⟨s, k⟩ := q; cbv) | ((with_reducible intro _); cbv) | ((with_reducible show _ ∧ _); (with_reducible apply And.intro))
  all_goals first | (refine retK (h _ _ _ _ _ _ _ _ _ _ _ _ _) rfl; clear h) | (refine retK (h _ _ _ _ _ _ _ _ _ _ _ _ _) rfl) | (with_reducible refine Ob.mk ?_; clear h) | (clear h)
  all_goals (try simp only [eta_map, eta_wlk, eta_ord, eta_pcl, eta_cll, eta_rec, eta_sto, eta_hld, eta_gst, eta_arb, eta_msg, eta_srv, eta_row, eta_note, eta_evt, eta_ow, eta_one, eta_wld, Int.toNat_natCast, Nat.succ_eq_add_one, decide_eq_true_eq, decide_eq_false_iff_not, Int.ofNat_lt, Int.ofNat_le, Int.natCast_pos, Bool.not_eq_true', Bool.not_eq_false', castL_self, SB.val, evT, RT.bytes, List.length_append, List.length_cons, List.length_nil] at *)
  all_goals (try simp only [List.length_take] at *)
  all_goals first | omega | grind [wrap_id]
theorem okDrawIn : SpecOk1 Try.prog 10 sDrawIn := spec1 tabOk (ss := [(33, sAnyCell), (34, sRecOf), (35, sPick), (36, sAnyParcel)]) ⟨okAnyCell, okRecOf, okPick, okAnyParcel, trivial⟩ rfl rfl <| by
  intro (bs : Th (List Int)) (p : Th Int) ⟨(l : Th (List Int)), u⟩ K hb hp0 ho h
  obtain ⟨l, rfl⟩ := th_ex l
  refine ⟨annL [(10, 4, ⟨Nat × Int, [], fun σ g => (((σ.t 13 (.one .unk)).t 15 (.one .unk)).t 9 (vI fun _ => (g.1 : Int))).cellC 7178 1 (.at (.int .i64 fun _ => g.2)), fun _ g _ => g.1 ≤ 6 ∧ 0 ≤ g.2 ∧ g.2 ≤ 5000 + 100 * g.1, fun _ g _ => 6 - g.1⟩)], noAnn, 20, ?_⟩
  cbv
  repeat' first | ((with_reducible refine fun (k : Nat) => ?_); cbv) | ((with_reducible refine fun (g : Nat × Int) => ?_); obtain ⟨gk, gq⟩ := g; cbv) | ((with_reducible intro _); cbv) | ((with_reducible show _ ∧ _); (with_reducible apply And.intro))
  all_goals try (first | (rename_i q1 hq; with_reducible refine LoopIn.mk ((0, q1) : Nat × Int) ?_ ?_) |
    (rename_i q1 h2 hc; with_reducible refine LoopBack.mk ((gk + 1, q1) : Nat × Int) ?_ ?_ ?_))
  all_goals try ((first | (with_reducible refine LoopIn.mk ((0 : Nat)) ?_ ?_) | (with_reducible refine LoopBack.mk ((0 : Nat)) ?_ ?_ ?_)) )
  all_goals try ((with_reducible show matchSt _ _); cbv; (try simp only [and_true, true_and]))
  all_goals try (with_reducible show _ ∧ _; (repeat' (with_reducible apply And.intro)))
  all_goals first | (refine retK (h _ _ _ _ _ _ _ _ _ _ _ _ _ _ _ _ _) rfl; clear h) | (refine retK (h _ _ _ _ _ _ _ _ _ _ _ _ _ _ _ _ _) rfl) | (with_reducible refine Ob.mk ?_; clear h) | (clear h)
  all_goals (try simp only [eta_map, eta_wlk, eta_ord, eta_pcl, eta_cll, eta_rec, eta_sto, eta_hld, eta_gst, eta_arb, eta_msg, eta_srv, eta_row, eta_note, eta_evt, eta_ow, eta_one, eta_wld, Int.toNat_natCast, Nat.succ_eq_add_one, decide_eq_true_eq, decide_eq_false_iff_not, Int.ofNat_lt, Int.ofNat_le, Int.natCast_pos, Bool.not_eq_true', Bool.not_eq_false', castL_self, SB.val, evT, RT.bytes, List.length_append, List.length_cons, List.length_nil] at *)
  all_goals (try simp only [List.length_take] at *)
  all_goals first | omega | grind [wrap_id, wrap_succ]

end Go.Proofs.Ythglmhekdbgonaa
