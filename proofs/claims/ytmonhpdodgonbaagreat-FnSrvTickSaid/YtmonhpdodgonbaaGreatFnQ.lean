/-
  Contracts: what is drawn: lists of walkers, records.
-/
import Derived.Test.YtmonhpdodgonbaaGreatFnP
import Derived.Test.YtmonhpdodgonbaaGreatGnF
import Derived.Test.YtmonhpdodgonbaaGreatM1
set_option linter.unusedVariables false
set_option linter.unusedSimpArgs false
namespace Go.Proofs.YtmonhpdodgonbaaGreat
open Go.Sx Go.Proofs Go.Mo
set_option maxRecDepth 100000
set_option maxHeartbeats 8000000
set_option linter.unusedSimpArgs false
set_option linter.unusedVariables false

noncomputable def sRec : Sx.Spec := ⟨true, false, [.map, .row .cll], [], fun _ p ⟨m, c, _⟩ => .asrt (fun _ => cllOk (m ()) (c ()) = true ∧ 0 ≤ p () ∧ p () ≤ 1000000000700) (.all Int fun x0 => .all Int fun x1 => .all Int fun x2 => .all Int fun x3 => .all Int fun x4 => .all Int fun x5 => .all Int fun x6 => .all Int fun x7 => .all Int fun x8 => .all Int fun x9 => .all Int fun x10 => .all Int fun x11 => .all Int fun x12 => .all Int fun x13 => .all Int fun x14 => .all Int fun x15 => .all Int fun q => .asm (fun _ => p () ≤ q ∧ q ≤ p () + 60) (.ret (.agg [cI x0, cI x1, cI x2, cI x3, cI x4, cI x5, cI x6, cI x7, cI x8, cI x9, cI x10, cI x11, cI x12, cI x13, cI x14, cI x15], fun _ => q)))⟩
noncomputable def sRecOf : Sx.Spec := ⟨true, false, [.map, .row .cll], [], fun _ p ⟨m, c, _⟩ => .asrt (fun _ => 0 ≤ p () ∧ p () ≤ 1000000000700) (.all Int fun x0 => .all Int fun x1 => .all Int fun x2 => .all Int fun x3 => .all Int fun x4 => .all Int fun x5 => .all Int fun x6 => .all Int fun x7 => .all Int fun x8 => .all Int fun x9 => .all Int fun x10 => .all Int fun x11 => .all Int fun x12 => .all Int fun x13 => .all Int fun x14 => .all Int fun x15 => .all Int fun q => .asm (fun _ => p () ≤ q ∧ q ≤ p () + 60) (.ret (.agg [cI x0, cI x1, cI x2, cI x3, cI x4, cI x5, cI x6, cI x7, cI x8, cI x9, cI x10, cI x11, cI x12, cI x13, cI x14, cI x15], fun _ => q)))⟩

theorem okWList : SpecOk1 Tryz.prog 101 sWList := spec1 tabOk (ss := [(17, sPick), (66, sWalker), (68, sBadWalker), (84, sWlkPut)]) ⟨okPick, okWalker, okBadWalker, okSWlkPut, trivial⟩ rfl rfl <| by
  intro (bs : Th (List Int)) (p : Th Int) ⟨(m : Th PMap), (n : Th Int), u⟩ K hb hp0 ho h
  obtain ⟨m, rfl⟩ := th_ex m; obtain ⟨n, rfl⟩ := th_ex n; obtain ⟨bs, rfl⟩ := th_ex bs; obtain ⟨p, rfl⟩ := th_ex p
  obtain ⟨hpre, h⟩ := h
  have hpre : 0 ≤ p ∧ p ≤ 1000000000700 := hpre.out
  refine ⟨annL [(101, 3, ⟨List Wlk × Int × Int, [⟨.tmp 7 0, some 11, .wlk⟩], fun σ g => ((((σ.fgs [11]).t 8 (vI fun _ => g.2.1)).t 7 (vO 11 1)).row 11 1 .wlk (fun _ => g.1)).cellC 0 1 (.att (.int .i64 fun _ => g.2.2)),
    fun _ g _ => 0 ≤ g.2.1 ∧ g.2.1 ≤ 5 ∧ (g.1.length : Int) ≤ 5 - g.2.1 ∧ p ≤ g.2.2 ∧ g.2.2 ≤ p + 1 + 10 * (5 - g.2.1), fun _ g _ => g.2.1.toNat⟩)], noAnn, 20, ?_⟩
  cbv
  repeat' first | ((with_reducible refine fun (k : Nat) => ?_); cbv) | ((with_reducible refine fun (g : List Wlk × Int × Int) => ?_); obtain ⟨gl, gk, gq⟩ := g; cbv) | ((with_reducible intro _); cbv) | ((with_reducible show _ ∧ _); (with_reducible apply And.intro))
  all_goals try (first | (rename_i w1 w2 w3 w4 w5 q1 hq; obtain ⟨L, hL⟩ : ∃ L, L = wlkPut gl ⟨w1, w2, w3, w4, w5⟩ := ⟨_, rfl⟩; obtain ⟨g1, hg1⟩ : ∃ g1, g1 = gk - 1 := ⟨_, rfl⟩; with_reducible refine LoopBack.mk ((L, g1, q1) : List Wlk × Int × Int) ?_ ?_ ?_) | (rename_i x1 q1 hq; with_reducible refine LoopIn.mk (([], x1, q1) : List Wlk × Int × Int) ?_ ?_))
  all_goals try ((first | (with_reducible refine LoopIn.mk ((0 : Nat)) ?_ ?_) | (with_reducible refine LoopBack.mk ((0 : Nat)) ?_ ?_ ?_)) )
  all_goals try ((with_reducible show matchSt _ _); cbv; (try simp only [and_true, true_and]))
  all_goals try (with_reducible show _ ∧ _; (repeat' (with_reducible apply And.intro)))
  all_goals first | (refine retK (h _ _ ?_) rfl; clear h) | (with_reducible refine Ob.mk ?_; clear h) | (clear h)
  all_goals (try simp only [eta0, RT.bytes] at *)
  all_goals (try simp only [setNth_app, List.length_set] at *)
  all_goals first | omega | grind [wrap_id, wlkPut_len]

theorem okRec : SpecOk1 Tryz.prog 105 sRec := spec1 tabOk (ss := [(17, sPick), (89, sParcel), (108, sOrder), (24, sPlcOk)]) ⟨okPick, okParcel, okOrder, okSPlcOk, trivial⟩ rfl rfl <| by
  intro (bs : Th (List Int)) (p : Th Int) ⟨(m : Th PMap), (c : Th Cll), u⟩ K hb hp0 ho h
  obtain ⟨m, rfl⟩ := th_ex m; obtain ⟨c, rfl⟩ := th_ex c; obtain ⟨bs, rfl⟩ := th_ex bs; obtain ⟨p, rfl⟩ := th_ex p
  obtain ⟨hpre, h⟩ := h
  have hpre : cllOk m c = true ∧ 0 ≤ p ∧ p ≤ 1000000000700 := hpre.out
  have hf := cllOk_facts hpre.1
  have hlen := cllOk_len hpre.1
  refine ⟨noAnn, noAnn, 20, ?_⟩
  cbv
  repeat' first | ((with_reducible refine fun (k : Nat) => ?_); cbv) | ((with_reducible refine fun (q : Nat × Unit) => ?_); obtain ⟨s, _⟩ := q; cbv) | ((with_reducible refine fun (q : Nat × Nat) => ?_); obtain ⟨s, k⟩ := q; cbv) | ((with_reducible intro _); cbv) | ((with_reducible show _ ∧ _); (with_reducible apply And.intro))
  all_goals first | (refine retK (h _ _ _ _ _ _ _ _ _ _ _ _ _ _ _ _ _ ?_) rfl; clear h) | (with_reducible refine Ob.mk ?_; clear h) | (clear h)
  all_goals (try simp only [eta0, RT.bytes] at *)
  all_goals first | omega | grind [wrap_id, tm]
end Go.Proofs.YtmonhpdodgonbaaGreat
