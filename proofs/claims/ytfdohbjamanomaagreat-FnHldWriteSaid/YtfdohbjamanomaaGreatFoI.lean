/-
  Contracts: what is drawn: holds.
-/
import Derived.Test.YtfdohbjamanomaaGreatFoF
import Derived.Test.YtfdohbjamanomaaGreatFoHs
set_option linter.unusedVariables false
set_option linter.unusedSimpArgs false
namespace Go.Mo
open Go.Sx
theorem open_small {m : PMap} {s : Sto} {a : Int} : small (hldOpen m s a).h.state.wlks (hldOpen m s a).h.state.outs := by
  unfold hldOpen
  split
  · rename_i h1
    split
    · exact small_nil (Nat.zero_le _)
    · exact small_ok (state_ok h1.1)
  · exact small_nil (Nat.zero_le _)
theorem open_len {m : PMap} {s : Sto} {a : Int} : (hldOpen m s a).s.recs.length ≤ s.recs.length := by
  unfold hldOpen
  split
  · split
    · exact Nat.le_refl _
    · exact Nat.le_refl _
  · exact Nat.zero_le _
theorem open_count {m : PMap} {s : Sto} {a : Int} : 0 ≤ (hldOpen m s a).h.count ∧ (hldOpen m s a).h.count ≤ 250 := by
  unfold hldOpen
  split
  · rename_i h1
    have := (stoOk_iff.1 h1.1).2.2.1
    split
    · show (0 : Int) ≤ 0 ∧ (0 : Int) ≤ 250
      decide
    · simp
      omega
  · show (0 : Int) ≤ 0 ∧ (0 : Int) ≤ 250
    decide
end Go.Mo
namespace Go.Proofs.YtfdohbjamanomaaGreat
open Go.Sx Go.Proofs Go.Mo
set_option maxRecDepth 100000
set_option maxHeartbeats 8000000
set_option linter.unusedSimpArgs false
set_option linter.unusedVariables false

def rH (g h a : Int) (b : List Wlk) (c : Int) (d : List (List Pcl)) (e f : List Int) : V := .agg [cI g, cI h, cI a, .att (.list .wlk fun _ => b), cI c, .att (.list .pcls fun _ => d), .att (.list .int fun _ => e), .att (.list .int fun _ => f)]
noncomputable def sHold : Sx.Spec := ⟨true, false, [], [[none, none], nSto, nHld], fun _ p _ => .asrt (fun _ => 0 ≤ p () ∧ p () ≤ 999999970000) (.all Int fun x => .all Int fun y => .all Int fun g => .all Int fun a => .all (List Wlk) fun b => .all Int fun c => .all (List (List Pcl)) fun d => .all (List Int) fun e => .all (List Int) fun f => .all (List Sx.Rec) fun l => .all Int fun g1 => .all Int fun g2 => .all Int fun a1 => .all (List Wlk) fun b1 => .all Int fun c1 => .all (List (List Pcl)) fun d1 => .all (List Int) fun e1 => .all (List Int) fun f1 => .all Int fun q => .asm (fun _ => p () ≤ q ∧ q ≤ p () + 6000 ∧ small b1 d1 ∧ 0 ≤ g2 ∧ g2 ≤ 250) (.ret (.tup [.agg [cI x, cI y], rS g a b c d e f l, rH g1 g2 a1 b1 c1 d1 e1 f1], fun _ => q)))⟩
noncomputable def sAnyHold : Sx.Spec := ⟨true, false, [.int .i64], [[none, none], nSto, nHld], fun _ p ⟨n, _⟩ => .asrt (fun _ => 0 ≤ p () ∧ p () ≤ 999999960000) (.all Int fun x => .all Int fun y => .all Int fun g => .all Int fun a => .all (List Wlk) fun b => .all Int fun c => .all (List (List Pcl)) fun d => .all (List Int) fun e => .all (List Int) fun f => .all (List Sx.Rec) fun l => .all Int fun g1 => .all Int fun g2 => .all Int fun a1 => .all (List Wlk) fun b1 => .all Int fun c1 => .all (List (List Pcl)) fun d1 => .all (List Int) fun e1 => .all (List Int) fun f1 => .all Int fun q => .asm (fun _ => p () ≤ q ∧ q ≤ p () + 7000) (.ret (.tup [.agg [cI x, cI y], rS g a b c d e f l, rH g1 g2 a1 b1 c1 d1 e1 f1], fun _ => q)))⟩
noncomputable def sDrawWrite : Sx.Spec := ⟨false, false, [.list .byte], [[none, none], nHld, nSto, [none, none, none, none, none, none, none, none, none, none, none, none, none, none, none, none]], fun _ _ _ => .all Int fun x => .all Int fun y => .all Int fun g => .all Int fun a => .all (List Wlk) fun b => .all Int fun c => .all (List (List Pcl)) fun d => .all (List Int) fun e => .all (List Int) fun f => .all (List Sx.Rec) fun l => .all Int fun g1 => .all Int fun g2 => .all Int fun a1 => .all (List Wlk) fun b1 => .all Int fun c1 => .all (List (List Pcl)) fun d1 => .all (List Int) fun e1 => .all (List Int) fun f1 => .all Int fun x0 => .all Int fun x1 => .all Int fun x2 => .all Int fun x3 => .all Int fun x4 => .all Int fun x5 => .all Int fun x6 => .all Int fun x7 => .all Int fun x8 => .all Int fun x9 => .all Int fun x10 => .all Int fun x11 => .all Int fun x12 => .all Int fun x13 => .all Int fun x14 => .all Int fun x15 => .ret (.tup [.agg [cI x, cI y], rH g1 g2 a1 b1 c1 d1 e1 f1, rS g a b c d e f l, .agg [cI x0, cI x1, cI x2, cI x3, cI x4, cI x5, cI x6, cI x7, cI x8, cI x9, cI x10, cI x11, cI x12, cI x13, cI x14, cI x15]], fun _ => 0)⟩

theorem okHold : SpecOk1 Tryz.prog 124 sHold := spec1 tabOk (ss := [(123, sStore), (36, sHldOpen), (75, sPick), (74, sPlaysO)]) ⟨okStore, okSHldOpen, okPick, okPlaysO, trivial⟩ rfl rfl <| by
  intro (bs : Th (List Int)) (p : Th Int) u K hb hp0 ho h
  obtain ⟨bs, rfl⟩ := th_ex bs; obtain ⟨p, rfl⟩ := th_ex p
  obtain ⟨hpre, h⟩ := h
  have hpre : 0 ≤ p ∧ p ≤ 999999970000 := hpre.out
  refine ⟨noAnn, noAnn, 20, ?_⟩
  cbv
  repeat' first | ((with_reducible refine fun (k : Nat) => ?_); cbv) | ((with_reducible refine fun (q : Nat × Unit) => ?_); obtain ⟨s, _⟩ := q; cbv) | ((with_reducible refine fun (q : Nat × Nat) => ?_); obtain ⟨s, k⟩ := q; cbv) | ((with_reducible intro _); cbv) | ((with_reducible show _ ∧ _); (with_reducible apply And.intro))
  all_goals first | (refine retK (h _ _ _ _ _ _ _ _ _ _ _ _ _ _ _ _ _ _ _ ?_) rfl; clear h) | (with_reducible refine Ob.mk ?_; clear h) | (clear h)
  all_goals (try simp only [eta0, RT.bytes] at *)
  all_goals first | omega | exact ⟨by omega, by omega, open_small, open_count.1, open_count.2⟩ | grind [wrap_id, open_len]

theorem okAnyHold : SpecOk1 Tryz.prog 91 sAnyHold := spec1 tabOk (ss := [(124, sHold), (75, sPick), (94, sBadCell), (95, sMap)]) ⟨okHold, okPick, okBadCell, okMap, trivial⟩ rfl rfl <| by
  intro (bs : Th (List Int)) (p : Th Int) ⟨(n : Th Int), u⟩ K hb hp0 ho h
  obtain ⟨n, rfl⟩ := th_ex n; obtain ⟨bs, rfl⟩ := th_ex bs; obtain ⟨p, rfl⟩ := th_ex p
  obtain ⟨hpre, h⟩ := h
  have hpre : 0 ≤ p ∧ p ≤ 999999960000 := hpre.out
  refine ⟨noAnn, noAnn, 20, ?_⟩
  cbv
  repeat' first | ((with_reducible refine fun (k : Nat) => ?_); cbv) | ((with_reducible refine fun (q : Nat × Unit) => ?_); obtain ⟨s, _⟩ := q; cbv) | ((with_reducible refine fun (q : Nat × Nat) => ?_); obtain ⟨s, k⟩ := q; cbv) | ((with_reducible intro _); cbv) | ((with_reducible show _ ∧ _); (with_reducible apply And.intro))
  all_goals first | (refine retK (h _ _ _ _ _ _ _ _ _ _ _ _ _ _ _ _ _ _ _ ?_) rfl; clear h) | (with_reducible refine Ob.mk ?_; clear h) | (clear h)
  all_goals (try simp only [eta0, RT.bytes] at *)
  all_goals first | omega | grind [wrap_id]

theorem okDrawWrite : SpecOk1 Tryz.prog 46 sDrawWrite := spec1 tabOk (ss := [(91, sAnyHold), (51, sAnyRec)]) ⟨okAnyHold, okAnyRec, trivial⟩ rfl rfl <| by
  intro (bs : Th (List Int)) (p : Th Int) ⟨(bsl : Th (List Int)), u⟩ K hb hp0 ho h
  obtain ⟨bsl, rfl⟩ := th_ex bsl
  refine ⟨noAnn, noAnn, 20, ?_⟩
  cbv
  repeat' first | ((with_reducible refine fun (k : Nat) => ?_); cbv) | ((with_reducible refine fun (q : Nat × Unit) => ?_); obtain ⟨s, _⟩ := q; cbv) | ((with_reducible refine fun (q : Nat × Nat) => ?_); obtain ⟨s, k⟩ := q; cbv) | ((with_reducible intro _); cbv) | ((with_reducible show _ ∧ _); (with_reducible apply And.intro))
  all_goals first | (refine retK (h _ _ _ _ _ _ _ _ _ _ _ _ _ _ _ _ _ _ _ _ _ _ _ _ _ _ _ _ _ _ _ _ _ _) rfl; clear h) | (refine retK (h _ _ _ _ _ _ _ _ _ _ _ _ _ _ _ _ _ _ _ _ _ _ _ _ _ _ _ _ _ _ _ _ _ _) rfl) | (with_reducible refine Ob.mk ?_; clear h) | (clear h)
  all_goals (try simp only [eta0, RT.bytes] at *)
  all_goals (try simp only [List.length_take] at *)
  all_goals first | omega | grind [wrap_id]

end Go.Proofs.YtfdohbjamanomaaGreat
