/-
  Contracts: ghosts and messages drawn.
-/
import Derived.Test.YtfgphaokmjdcbaaGreatGnX
set_option linter.unusedVariables false
set_option linter.unusedSimpArgs false
namespace Go.Proofs.YtfgphaokmjdcbaaGreat
open Go.Sx Go.Proofs Go.Mo
set_option maxRecDepth 100000
set_option maxHeartbeats 8000000
set_option linter.unusedSimpArgs false
set_option linter.unusedVariables false

noncomputable def sGhostE : Sx.Spec := ⟨true, false, [.map], [], fun _ p ⟨m, _⟩ => .asrt (fun _ => (True) ∧ 0 ≤ p () ∧ p () ≤ 999000000000) (.all Int fun x0 => .all Int fun x1 => .all Int fun x2 => .all Int fun x3 => .all Int fun x4 => .all Int fun x5 => .all Int fun x6 => .all Int fun q => .asm (fun _ => p () ≤ q ∧ q ≤ p () + 60) (.ret (.agg [cI x0, cI x1, cI x2, cI x3, cI x4, cI x5, cI x6], fun _ => q)))⟩
noncomputable def sMessageE : Sx.Spec := ⟨true, false, [.row .wld], [], fun _ p ⟨w, _⟩ => .asrt (fun _ => (True) ∧ 0 ≤ p () ∧ p () ≤ 998000000000) (.all Int fun x0 => .all Int fun x1 => .all Int fun x2 => .all Int fun x3 => .all Int fun x4 => .all Int fun x5 => .all Int fun x6 => .all Int fun x7 => .all Int fun x8 => .all Int fun x9 => .all Int fun x10 => .all Int fun x11 => .all Int fun x12 => .all Int fun x13 => .all Int fun x14 => .all Int fun x15 => .all Int fun x16 => .all Int fun x17 => .all Int fun x18 => .all Int fun x19 => .all Int fun x20 => .all Int fun x21 => .all Int fun x22 => .all Int fun x23 => .all Int fun x24 => .all Int fun q => .asm (fun _ => p () ≤ q ∧ q ≤ p () + 200) (.ret (.agg [cI x0, cI x1, cI x2, cI x3, cI x4, cI x5, cI x6, cI x7, cI x8, cI x9, cI x10, cI x11, cI x12, cI x13, cI x14, cI x15, cI x16, cI x17, cI x18, cI x19, cI x20, cI x21, cI x22, cI x23, cI x24], fun _ => q)))⟩
noncomputable def sBadMsgE : Sx.Spec := ⟨true, false, [.row .wld, .row .msg], [], fun _ p ⟨w, x, _⟩ => .asrt (fun _ => (True) ∧ 0 ≤ p () ∧ p () ≤ 998000000000) (.all Int fun x0 => .all Int fun x1 => .all Int fun x2 => .all Int fun x3 => .all Int fun x4 => .all Int fun x5 => .all Int fun x6 => .all Int fun x7 => .all Int fun x8 => .all Int fun x9 => .all Int fun x10 => .all Int fun x11 => .all Int fun x12 => .all Int fun x13 => .all Int fun x14 => .all Int fun x15 => .all Int fun x16 => .all Int fun x17 => .all Int fun x18 => .all Int fun x19 => .all Int fun x20 => .all Int fun x21 => .all Int fun x22 => .all Int fun x23 => .all Int fun x24 => .all Int fun q => .asm (fun _ => p () ≤ q ∧ q ≤ p () + 200) (.ret (.agg [cI x0, cI x1, cI x2, cI x3, cI x4, cI x5, cI x6, cI x7, cI x8, cI x9, cI x10, cI x11, cI x12, cI x13, cI x14, cI x15, cI x16, cI x17, cI x18, cI x19, cI x20, cI x21, cI x22, cI x23, cI x24], fun _ => q)))⟩

theorem okGhostE : SpecOk1 Tryz.prog 99 sGhostE := spec1 tabOk (ss := [(146, sWalker), (45, sPlcOk), (39, sPick), (103, sPlcCell), (147, sBadWalker)]) ⟨okWalker, okSPlcOk, okPick, okSPlcCell, okBadWalker, trivial⟩ rfl rfl <| by
  intro (bs : Th (List Int)) (p : Th Int) ⟨(m : Th PMap), u⟩ K hb hp0 ho h
  obtain ⟨m, rfl⟩ := th_ex m; obtain ⟨bs, rfl⟩ := th_ex bs; obtain ⟨p, rfl⟩ := th_ex p
  obtain ⟨hpre, h⟩ := h
  have hpre : True ∧ 0 ≤ p ∧ p ≤ 999000000000 := hpre.out
  refine ⟨noAnn, noAnn, 20, ?_⟩
  cbv
  repeat' first | ((with_reducible intro _); cbv) | ((with_reducible show _ ∧ _); (with_reducible apply And.intro))
  all_goals first | (refine retK (h _ _ _ _ _ _ _ _ ?_) rfl; clear h) | (with_reducible refine Ob.mk ?_; clear h) | (clear h)
  all_goals (try simp only [eta0, RT.bytes] at *)
  all_goals (try dsimp only [RT.ty] at *)
  all_goals (try simp only [ncast] at *)
  all_goals (first | rfl | omega | grind [wrap_id])
theorem okMessageE : SpecOk1 Tryz.prog 38 sMessageE := spec1 tabOk (ss := [(39, sPick), (97, sOrder), (98, sParcel), (99, sGhostE)]) ⟨okPick, okOrder, okParcel, okGhostE, trivial⟩ rfl rfl <| by
  intro (bs : Th (List Int)) (p : Th Int) ⟨(w : Th Wld), u⟩ K hb hp0 ho h
  obtain ⟨w, rfl⟩ := th_ex w; obtain ⟨bs, rfl⟩ := th_ex bs; obtain ⟨p, rfl⟩ := th_ex p
  obtain ⟨hpre, h⟩ := h
  have hpre : True ∧ 0 ≤ p ∧ p ≤ 998000000000 := hpre.out
  refine ⟨noAnn, noAnn, 20, ?_⟩
  cbv
  repeat' first | ((with_reducible intro _); cbv) | ((with_reducible show _ ∧ _); (with_reducible apply And.intro))
  all_goals first | (refine retK (h _ _ _ _ _ _ _ _ _ _ _ _ _ _ _ _ _ _ _ _ _ _ _ _ _ _ ?_) rfl; clear h) | (with_reducible refine Ob.mk ?_; clear h) | (clear h)
  all_goals (try simp only [eta0, RT.bytes] at *)
  all_goals (try dsimp only [RT.ty] at *)
  all_goals (try simp only [ncast] at *)
  all_goals (first | rfl | omega | grind [wrap_id])
theorem okBadMsgE : SpecOk1 Tryz.prog 40 sBadMsgE := spec1 tabOk (ss := [(39, sPick), (96, sAnyOrder), (100, sAnyParcel), (99, sGhostE)]) ⟨okPick, okAnyOrder, okAnyParcel, okGhostE, trivial⟩ rfl rfl <| by
  intro (bs : Th (List Int)) (p : Th Int) ⟨(w : Th Wld), (x : Th Msg), u⟩ K hb hp0 ho h
  obtain ⟨w, rfl⟩ := th_ex w; obtain ⟨x, rfl⟩ := th_ex x; obtain ⟨bs, rfl⟩ := th_ex bs; obtain ⟨p, rfl⟩ := th_ex p
  obtain ⟨hpre, h⟩ := h
  have hpre : True ∧ 0 ≤ p ∧ p ≤ 998000000000 := hpre.out
  refine ⟨noAnn, noAnn, 20, ?_⟩
  cbv
  repeat' first | ((with_reducible intro _); cbv) | ((with_reducible show _ ∧ _); (with_reducible apply And.intro))
  all_goals first | (refine retK (h _ _ _ _ _ _ _ _ _ _ _ _ _ _ _ _ _ _ _ _ _ _ _ _ _ _ ?_) rfl; clear h) | (with_reducible refine Ob.mk ?_; clear h) | (clear h)
  all_goals (try simp only [eta0, RT.bytes] at *)
  all_goals (try dsimp only [RT.ty] at *)
  all_goals (try simp only [ncast] at *)
  all_goals (first | rfl | omega | grind [wrap_id])
end Go.Proofs.YtfgphaokmjdcbaaGreat
