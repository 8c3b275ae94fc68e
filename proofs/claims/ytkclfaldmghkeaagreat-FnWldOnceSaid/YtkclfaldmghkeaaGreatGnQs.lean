/-
  Contracts: holds put and let go of, the reference's way.
-/
import Derived.Test.YtkclfaldmghkeaaGreatGrT
import Derived.Test.YtkclfaldmghkeaaGreatM2
import Derived.Test.YtkclfaldmghkeaaGreatTok
import Derived.Test.YtkclfaldmghkeaaGreatS5
set_option linter.unusedVariables false
set_option linter.unusedSimpArgs false
set_option maxRecDepth 100000
set_option maxHeartbeats 8000000
namespace Go.Proofs.YtkclfaldmghkeaaGreat
open Go.Sx Go.Proofs Go.Mo
noncomputable def a8A : Sx.Spec := ⟨false, false, [.row .srv, .int .i64], [[none, some .hld, some .gst]], fun _ _ ⟨s, c, _⟩ => .asrt (fun _ => (s ()).holds.length ≤ 9) (.ret (rAs (a4y fun _ => ⟨(s ()).up, C5 (s ()).holds (c ()), (s ()).n0⟩), fun _ => 0))⟩
noncomputable def sWith : Sx.Spec := ⟨false, false, [.row .srv, .row .hld], [[none, some .hld, some .gst]], fun _ _ ⟨s, h, _⟩ => .asrt (fun _ => (s ()).holds.length ≤ 9) (.ret (rAs (a4y fun _ => ⟨(s ()).up, a3z (s ()).holds (h ()), (s ()).n0⟩), fun _ => 0))⟩
theorem a5y : b7 Tryz.prog 225 a8A := j8 j3 (ss := []) trivial rfl rfl <| by
 intro (bs : Th (List Int)) (p : Th Int) ⟨(s : Th Srv), (c : Th Int), u⟩ K _ _ ho h
 obtain ⟨s, rfl⟩ := a8 s; obtain ⟨c, rfl⟩ := a8 c
 obtain ⟨ha, h⟩ := h
 have ha := ha.out
 have hl := b3j s.holds c
 refine ⟨annL [(225, 3, ⟨Nat, [⟨.tmp 5 0, some 1000000000000008, .hld⟩], fun σ k => (((σ.fg 8).t 6 (vI fun _ => (k : Int))).t 5 (vO 8 1)).h 8 (1, .row false 0 .hld (fun _ => N4 s.holds c k)), fun _ k _ => k ≤ s.holds.length, fun _ k _ => s.holds.length - k⟩)], noAnn, 20, ?_⟩
 cbv
 repeat' first | ((with_reducible refine fun (k : Nat) => ?_); cbv) | ((with_reducible intro _); cbv) | (with_reducible refine And.intro ?_ ?_)
 all_goals try ((first | (with_reducible refine LoopIn.mk ((0 : Nat)) ?_ ?_) | (with_reducible refine LoopBack.mk ((k + 1 : Nat)) ?_ ?_ ?_)) )
 all_goals try ((with_reducible show m6 _ _); cbv; (try simp only [and_true, true_and]))
 all_goals try (repeat' with_reducible refine And.intro ?_ ?_)
 all_goals first | (refine retK h ?_; clear h; simp only [fin0]) | (with_reducible refine Ob.mk ?_; clear h) | (clear h)
 all_goals (try simp only [eta0, RT.bytes] at *)
 all_goals grind [j5, b0z, b3i, b5H, b3k]
theorem c1T : b7 Tryz.prog 222 sWith := j8 j3 (ss := [(225, a8A)]) ⟨a5y, trivial⟩ rfl rfl <| by
 intro (bs : Th (List Int)) (p : Th Int) ⟨(s : Th Srv), (g : Th Hld), u⟩ K _ _ ho h
 obtain ⟨s, rfl⟩ := a8 s; obtain ⟨g, rfl⟩ := a8 g
 obtain ⟨ha, h⟩ := h
 have ha := ha.out
 have hd := b7L s.holds g.state.cell
 have hl := c5y (C5 s.holds g.state.cell) g
 refine ⟨annL [(222, 5, ⟨Nat, [⟨.tmp 6 0, some 1000000000000016, .hld⟩], fun σ k => ((((σ.fg 16).t 8 (vI fun _ => (k : Int))).t 6 (vO 16 1)).t 7 (vB fun _ => (hpTo (C5 s.holds g.state.cell) g k).d)).h 16 (1, .row false 0 .hld (fun _ => (hpTo (C5 s.holds g.state.cell) g k).l)), fun _ k _ => k ≤ (C5 s.holds g.state.cell).length, fun _ k _ => (C5 s.holds g.state.cell).length - k⟩)], noAnn, 20, ?_⟩
 cbv
 repeat' first | ((with_reducible refine fun (k : Nat) => ?_); cbv) | ((with_reducible intro _); cbv) | (with_reducible refine And.intro ?_ ?_)
 all_goals try ((first | (with_reducible refine LoopIn.mk ((0 : Nat)) ?_ ?_) | (with_reducible refine LoopBack.mk ((k + 1 : Nat)) ?_ ?_ ?_)) )
 all_goals try ((with_reducible show m6 _ _); cbv; (try simp only [and_true, true_and]))
 all_goals try (repeat' with_reducible refine And.intro ?_ ?_)
 all_goals first | (refine retK h ?_; clear h; simp only [fin0]) | (with_reducible refine Ob.mk ?_; clear h) | (clear h)
 all_goals (try simp only [eta0, RT.bytes] at *)
 all_goals grind (splits := 30) [j5, c2q, a6V, a0j, b9R, a3z]
end Go.Proofs.YtkclfaldmghkeaaGreat
namespace Go.Proofs.YtkclfaldmghkeaaGreat
open Go.Sx Go.Proofs Go.RowKit
theorem c2j : (Tryz.prog.info? 78).map (fun i => (i.zero, i.size, i.bytes)) = some (some (.agg #[.int .i64 0, .int .i64 0, .int .i64 0, .slice none 0 0, .int .i64 0, .slice none 0 0, .slice none 0 0, .slice none 0 0]), 8, 128) := by kernel_rfl
theorem a8g : ∃ inf z, Tryz.prog.info? 78 = some inf ∧ inf.size = 8 ∧ inf.bytes = 128 ∧ inf.zero = some z ∧ z.cells.size = 8 := by
 obtain ⟨i0, h1, h2, h3, h4⟩ := info_parts c2j
 exact ⟨i0, _, h1, h3, h4, h2, rfl⟩
theorem c2i (w : World) (b n c i vb voff vc T tV : Nat) (cs vcs : Array Value) (us : List Value) (hi : i < n) (hroom : n + 1 ≤ c) (hc : c ≤ maxLen) (hh : w.heap[b]? = some (.cells cs T (0, 0))) (hs : cs.size = c * 8) (hu : us.length = 8)
  (hvh : w.heap[vb]? = some (.cells vcs tV (0, 0))) (hvb : vb ≠ b) (hvs : ∀ j v, us[j]? = some v → w.cell? ⟨vb, voff + j, none⟩ = some v) (h1 : ∀ u ∈ us, one u) (h1c : ∀ u ∈ cs.toList.take (n * 8), one u) :
  Calls Tryz.prog 216 #[.slice (some ⟨b, 0, none⟩) n c, .int .i64 i, .slice (some ⟨vb, voff, none⟩) 1 vc] w fun e w' =>
   ∃ v, e = .returned v ∧ InsE w w' 8 (.slice (some ⟨b, 0, none⟩) n c) v n i 1 b c cs us := by
 obtain ⟨inf, z, hinf, hsz, hby, hz, hzc⟩ := a8g
 have u25 := run_underlying Tryz.underlying50
 have z38 : ∀ w, (sizeOf 78).run Tryz.prog w = .ok 8 w := fun w => by simp [sizeOf, typeInfo, hinf, hsz]
 have hc63 : c ≤ 9223372036854775807 := hc
 have hcb : n + 1 ≤ 9223372036854775807 := by omega
 have hkB : cs.size ≠ 0 := by rw [hs]; omega
 have hov : ∀ lb cb, (callFunc 229 #[.slice (some ⟨vb, voff, none⟩) 1 vc, .slice (some ⟨b, (i + 1) * 8, none⟩) lb cb]).run Tryz.prog w = .ok (.value (.bool false)) w := fun lb cb => by
  rw [run_callFunc_extern Tryz.func229 (by kernel_rfl) (by kernel_rfl) (by kernel_rfl) (e := Extern.SlicesOverlaps.overlaps #[50, 50] #[4]) (by kernel_rfl),
   Lib.run_overlaps_apart w 50 4 78 Tryz.underlying50 8 z38 ⟨vb, voff, none⟩ ⟨b, (i + 1) * 8, none⟩ 1 vc lb cb hvb tV T vcs.size cs.size (by simp [World.shape?, hvh]) (by simp [World.shape?, hh]) hkB (frozen_of_row _ _ _ _ _ hvh) (frozen_of_row _ _ _ _ _ hvh)]
  rfl
 have hw1 : IntKind.i64.wrap ((n : Int) + 1) = ((n + 1 : Nat) : Int) := by rw [IntKind.wrap_i64]; omega
 have hw2 : IntKind.i64.wrap ((i : Int) + 1) = ((i + 1 : Nat) : Int) := by rw [IntKind.wrap_i64]; omega
 have hne : ¬ ((i : Int) = (n : Int)) := by omega
 have mixed := j3.mix
 have hb1 : (0 : Int) ≤ (i : Int) + 1 := by omega
 have hin : i ≤ n := by omega
 have hb2 : ¬ (c = i + 1) := by omega
 have hb3 : (i : Int) ≤ (n : Int) + 1 := by omega
 have hb4 : ¬ (c = i) := by omega
 have htn : ((i : Int) + 1).toNat = i + 1 := by omega
 go_enter Tryz.func216, Tryz.ntmps216
 go_wp2_with (simp only [hov])
 clear hov
 have htl := Q9 (i := i) hs (show n ≤ c by omega)
 have hn5 : (n + 1) * 8 ≤ c * 8 := Nat.mul_le_mul_right _ hroom
 have hsrc : ∀ j v, ((cs.toList.take (n * 8)).drop (i * 8))[j]? = some v → w.cell? ⟨b, i * 8 + j, none⟩ = some v := fun j v hj => by
  rw [List.getElem?_drop, List.getElem?_take] at hj
  rw [o7 hh]
  split at hj
  ·simpa using hj
  ·cases hj
 have hcp1 : ∀ ty dc sc, (Builtin.copy_ #[50, 50] ty #[.slice (some ⟨b, (i + 1) * 8, none⟩) (n - i) dc, .slice (some ⟨b, i * 8, none⟩) (n + 1 - i) sc]).run Tryz.prog w.drew = .ok (goInt (n - i : Nat)) (wrote w.drew b ((i + 1) * 8) cs ((cs.toList.take (n * 8)).drop (i * 8))) := fun ty dc sc =>
  A2 (k := n - i) (us := (cs.toList.take (n * 8)).drop (i * 8)) Tryz.underlying50 hinf (by simp only [Nat.min_def]; split <;> omega) (by rw [hsz]; exact htl) (fun j v hj => by
   rw [u6]
   exact hsrc j v hj) hh (by rw [htl, hs]; omega) (fun u hu => h1c u (List.mem_of_mem_drop hu))
 go_region_law_o (refine step_copy_runI rfl _ _ 50 50 rfl _ _ (by simp [Act.eval, Act.put]) (by simp [Act.eval, Act.put]) (hcp1 _ _ _) ?_)
 have htl2 : ((cs.toList.take (n * 8)).drop (i * 8)).length = (n - i) * 8 := htl
 obtain ⟨cs1, hcs1⟩ : ∃ cs1, cs1 = (putAt cs.toList ((i + 1) * 8) ((cs.toList.take (n * 8)).drop (i * 8))).toArray := ⟨_, rfl⟩
 obtain ⟨W1, hW1⟩ : ∃ W1, W1 = wrote w.drew b ((i + 1) * 8) cs ((cs.toList.take (n * 8)).drop (i * 8)) := ⟨_, rfl⟩
 have hh1 : W1.heap[b]? = some (.cells cs1 T (0, 0)) := by rw [hW1, hcs1]; exact u9 hh
 have hv1 : W1.heap[vb]? = some (.cells vcs tV (0, 0)) := by rw [hW1, r9 hvb]; exact hvh
 have hsz1 : cs1.size = c * 8 := by rw [hcs1, List.size_toArray, o6 _ _ _ (by rw [htl2, Array.length_toList, hs]; omega), Array.length_toList, hs]
 have hcp2 : ∀ (W : World), W.heap = W1.heap → ∀ ty dc, (Builtin.copy_ #[50, 50] ty #[.slice (some ⟨b, i * 8, none⟩) (n + 1 - i) dc, .slice (some ⟨vb, voff, none⟩) 1 vc]).run Tryz.prog W = .ok (goInt (1 : Nat)) (wrote W b (i * 8) cs1 us) := fun W hW ty dc =>
  A2 (k := 1) (us := us) (T := T) Tryz.underlying50 hinf (by simp only [Nat.min_def]; split <;> omega) (by rw [hsz, hu]) (fun j v hj => by
   rw [u6, o7 (cs := vcs) (T := tV) (by rw [hW]; exact hv1)]
   have := hvs j v hj
   rw [o7 hvh] at this
   exact this) (by rw [hW]; exact hh1) (by rw [hu, hsz1]; omega) h1
 rw [← hW1]
 go_wp2_with (at_builtin; refine wpList_copy_runI _ rfl _ _ 50 50 rfl _ _ rfl rfl (hcp2 _ rfl _ _) ?_)
 have hend : InsM w (wrote W1 b (i * 8) cs1 us) 8 (.slice (some ⟨b, 0, none⟩) n c) (.slice (some ⟨b, 0, none⟩) (n + 1) c) n i 1 b c cs us b c (I5 cs 8 n i us).toArray T := by
  refine InsM.room hh hs hroom hc hi hu ?_ (fun x hx => ?_) ?_ ?_ ?_ ?_
  ·rw [u9 hh1, I5, hcs1]
  ·rw [r9 hx, hW1, r9 hx]; rfl
  ·rw [hW1]; rfl
  ·rw [hW1]; rfl
  ·rw [hW1]; rfl
  ·rw [hW1]; simp [wrote, World.setRow]
 subst hcs1
 subst hW1
 go_ret
 exact ⟨.slice (some ⟨b, 0, none⟩) (n + 1) c, rfl, _, _, _, _, hend⟩
theorem c2k (w : World) (b n c i vb voff vc T tV : Nat) (cs vcs : Array Value) (us : List Value) (hi : i < n) (hnc : n ≤ c) (hroom : c < n + 1) (hc : c ≤ maxLen) (hh : w.heap[b]? = some (.cells cs T (0, 0))) (hs : cs.size = c * 8) (hu : us.length = 8)
  (hvh : w.heap[vb]? = some (.cells vcs tV (0, 0))) (hvs : ∀ j v, us[j]? = some v → w.cell? ⟨vb, voff + j, none⟩ = some v) (h1 : ∀ u ∈ us, one u) (h1c : ∀ u ∈ cs.toList.take (n * 8), one u) (hbig : (n + 1) * 128 ≤ 140737488355328) :
  Calls Tryz.prog 216 #[.slice (some ⟨b, 0, none⟩) n c, .int .i64 i, .slice (some ⟨vb, voff, none⟩) 1 vc] w fun e w' =>
   ∃ v, e = .returned v ∧ InsE w w' 8 (.slice (some ⟨b, 0, none⟩) n c) v n i 1 b c cs us := by
 obtain ⟨inf, z, hinf, hsz, hby, hz, hzc⟩ := a8g
 have u25 := run_underlying Tryz.underlying50
 have z38 : ∀ w, (sizeOf 78).run Tryz.prog w = .ok 8 w := fun w => by simp [sizeOf, typeInfo, hinf, hsz]
 have mixed := j3.mix
 have hc63 : c ≤ 9223372036854775807 := hc
 have hsrc : ∀ j v, ((cs.toList.take (n * 8)).drop (i * 8))[j]? = some v → w.cell? ⟨b, i * 8 + j, none⟩ = some v := fun j v hj => by
  rw [List.getElem?_drop, List.getElem?_take] at hj
  rw [o7 hh]
  split at hj
  ·simpa using hj
  ·cases hj
 have hi5 : (i + 1) * 8 ≤ c * 8 := Nat.mul_le_mul_right _ (by omega)
 have hold : (Builtin.firstCells inf.size i (.slice (some ⟨b, 0, none⟩) i c)).run Tryz.prog w.drew = .ok (cs.toList.take (i * 8)).toArray w.drew := by
  rw [hsz]
  exact run_firstCells_some w.drew 8 i ⟨b, 0, none⟩ i c (cs.toList.take (i * 8)) (by rw [List.length_take, Array.length_toList, hs]; omega) (fun j v hj => by
   rw [u6, Nat.zero_add, show w.drew.cell? ⟨b, j, none⟩ = w.cell? ⟨b, j, none⟩ from rfl, o7 hh]
   rw [List.getElem?_take] at hj
   split at hj
   ·simpa using hj
   ·cases hj)
 have hik : i + (n + 1 - i) = n + 1 := by omega
 have hkk : (n : Int) + 1 - (i : Int) = ((n + 1 - i : Nat) : Int) := by omega
 have hrz : ∀ ty, (Builtin.append_ #[50, 3] ty #[.slice (some ⟨b, 0, none⟩) i c, .int .i64 ((n : Int) + 1 - (i : Int))]).run Tryz.prog w =
   .ok (.slice (some ⟨w.heap.size, 0, none⟩) (n + 1) (grownCap w (n + 1) c 78)) (w.drew.alloc (.cells ((cs.toList.take (i * 8)).toArray ++ Builtin.zeroCells z.cells (n + 1 - i) ++ Builtin.zeroCells z.cells (grownCap w (n + 1) c 78 - (n + 1))) 78)) := fun ty => by
  have h := Lib.run_append_grow_zeros w 50 3 ty 78 inf z .i64 .i64 Tryz.underlying50 Tryz.underlying3 hinf hz (some ⟨b, 0, none⟩) i c (cs.toList.take (i * 8)) hold (n + 1 - i) (by omega) (by omega) (by omega) (by omega) (by rw [hby]; omega) (by rw [hby, hik]; exact growslice_fits hroom hbig)
  rw [hik] at h
  rw [hkk]
  exact h
 obtain ⟨G, hG⟩ : ∃ G, G = grownCap w (n + 1) c 78 := ⟨_, rfl⟩
 have hGn : n + 1 ≤ G := by rw [hG]; exact grownCap_ge w _ _ _
 have hGm : G ≤ maxLen := by rw [hG]; exact grownCap_le_maxLen w (n + 1) c _ (by unfold maxLen; omega)
 have hG63 : G ≤ 9223372036854775807 := hGm
 obtain ⟨ROW, hROW⟩ : ∃ ROW : Array Value, ROW = (cs.toList.take (i * 8)).toArray ++ Builtin.zeroCells z.cells (n + 1 - i) ++ Builtin.zeroCells z.cells (G - (n + 1)) := ⟨_, rfl⟩
 rw [← hG] at hrz
 rw [← hROW] at hrz
 have hRl : ROW.toList.length = G * 8 := by
  rw [hROW, Array.length_toList]
  simp only [Array.size_append, List.size_toArray, size_zeroCells, hzc, List.length_take, Array.length_toList, hs]
  omega
 have hR0 : ∀ o, o < i * 8 → ROW.toList[o]? = cs[o]? := fun o ho => by
  have hl : (cs.toList.take (i * 8)).length = i * 8 := by rw [List.length_take, Array.length_toList, hs]; omega
  rw [hROW]
  simp only [Array.toList_append]
  rw [List.append_assoc, List.getElem?_append_left (by rw [List.toList_toArray, hl]; exact ho), List.toList_toArray, List.getElem?_take, if_pos ho]
  simp
 have htl := Q9 (i := i) hs hnc
 have hbw : b < w.heap.size := by
  rcases Nat.lt_or_ge b w.heap.size with h | h
  ·exact h
  ·rw [Array.getElem?_eq_none h] at hh; cases hh
 have hvw : vb < w.heap.size := by
  rcases Nat.lt_or_ge vb w.heap.size with h | h
  ·exact h
  ·rw [Array.getElem?_eq_none h] at hvh; cases hvh
 obtain ⟨W1, hW1⟩ : ∃ W1, W1 = w.drew.alloc (.cells ROW 78) := ⟨_, rfl⟩
 rw [← hW1] at hrz
 have hN1 : W1.heap[w.heap.size]? = some (.cells ROW 78 (0, 0)) := by rw [hW1]; exact a4E w _
 have hO1 : ∀ x, x < w.heap.size → W1.heap[x]? = w.heap[x]? := fun x hx => by rw [hW1]; exact a4D w _ x hx
 obtain ⟨R2, hR2⟩ : ∃ R2, R2 = (putAt ROW.toList (i * 8) us).toArray := ⟨_, rfl⟩
 have hG5 : (n + 1) * 8 ≤ G * 8 := Nat.mul_le_mul_right _ hGn
 have hR2l : R2.size = G * 8 := by rw [hR2, List.size_toArray, o6 _ _ _ (by rw [hu, hRl]; omega), hRl]
 have hcpA : ∀ (W : World), W.heap = W1.heap → ∀ ty dc, (Builtin.copy_ #[50, 50] ty #[.slice (some ⟨w.heap.size, i * 8, none⟩) (n + 1 - i) dc, .slice (some ⟨vb, voff, none⟩) 1 vc]).run Tryz.prog W = .ok (goInt (1 : Nat)) (wrote W w.heap.size (i * 8) ROW us) := fun W hW ty dc =>
  A2 (k := 1) (us := us) (T := 78) Tryz.underlying50 hinf (by simp only [Nat.min_def]; split <;> omega) (by rw [hsz, hu]) (fun j v hj => by
   rw [u6, o7 (cs := vcs) (T := tV) (by rw [hW, hO1 _ hvw]; exact hvh)]
   have := hvs j v hj
   rw [o7 hvh] at this
   exact this) (by rw [hW]; exact hN1) (by rw [hu, ← Array.length_toList, hRl]; omega) h1
 obtain ⟨W2, hW2⟩ : ∃ W2, W2 = wrote W1 w.heap.size (i * 8) ROW us := ⟨_, rfl⟩
 have hcpB : ∀ (W : World), W.heap = W2.heap → ∀ ty dc sc, (Builtin.copy_ #[50, 50] ty #[.slice (some ⟨w.heap.size, (i + 1) * 8, none⟩) (n - i) dc, .slice (some ⟨b, i * 8, none⟩) (n - i) sc]).run Tryz.prog W = .ok (goInt (n - i : Nat)) (wrote W w.heap.size ((i + 1) * 8) R2 ((cs.toList.take (n * 8)).drop (i * 8))) := fun W hW ty dc sc =>
  A2 (k := n - i) (us := (cs.toList.take (n * 8)).drop (i * 8)) (T := 78) Tryz.underlying50 hinf (by simp only [Nat.min_def]; split <;> omega) (by rw [hsz, htl]) (fun j v hj => by
   rw [u6, o7 (cs := cs) (T := T) (by rw [hW, hW2, r9 (by omega), hO1 _ hbw]; exact hh)]
   have := hsrc j v hj
   rw [o7 hh] at this
   exact this) (by rw [hW, hW2, hR2]; exact u9 hN1) (by rw [htl, hR2l]; omega) (fun u hu => h1c u (List.mem_of_mem_drop hu))
 have hGi : ¬ (G = i) := by omega
 have hGim : ¬ (G = i + 1) := by omega
 have hci : ¬ (c = i) := by omega
 have hw1 : IntKind.i64.wrap ((n : Int) + 1) = ((n + 1 : Nat) : Int) := by rw [IntKind.wrap_i64]; omega
 have hw2 : IntKind.i64.wrap ((i : Int) + 1) = ((i + 1 : Nat) : Int) := by rw [IntKind.wrap_i64]; omega
 have hb1 : (0 : Int) ≤ (i : Int) + 1 := by omega
 have hin : i ≤ n := by omega
 have htn : ((i : Int) + 1).toNat = i + 1 := by omega
 have hb3 : (i : Int) ≤ (n : Int) := by omega
 have hne : ¬ ((i : Int) = (n : Int)) := by omega
 have hend : ∀ W : World, W.heap = (wrote W2 w.heap.size ((i + 1) * 8) R2 ((cs.toList.take (n * 8)).drop (i * 8))).heap → W.os = w.os → W.tape = w.tape → W.output = w.output → InsE w W 8 (.slice (some ⟨b, 0, none⟩) n c) (.slice (some ⟨w.heap.size, 0, none⟩) (n + 1) G) n i 1 b c cs us := fun W hW g1 g2 g3 => by
  refine ⟨_, _, _, 78, InsM.grow (row := ROW.toList) hRl hs hnc hGn hGm hi hu hR0 ?_ rfl ?_ (fun x hx => ?_) g1 g2 g3⟩
  ·rw [hW, u9 (T := 78) (by rw [hW2, hR2]; exact u9 hN1), V1, hR2]
  ·rw [hW, hW2, hW1]; simp [wrote, World.setRow, World.alloc]
  ·rw [hW, r9 (by omega), hW2, r9 (by omega)]; exact hO1 x hx
 clear hkk hik hold hROW hG hRl hR0
 go_enter Tryz.func216, Tryz.ntmps216
 go_wp2_with (first
  | (at_builtin; refine Lib.wpList_append_run _ rfl _ _ _ _ rfl _ _ rfl rfl _ _ (hrz _) ?_)
  | (at_builtin; refine wpList_copy_runI _ rfl _ _ 50 50 rfl _ _ rfl rfl (hcpA _ rfl _ _) ?_))
 go_region_law_o (refine step_copy_runI rfl _ _ 50 50 rfl (.slice (some ⟨w.heap.size, (i + 1) * 8, none⟩) (n - i) (G - (i + 1))) (.slice (some ⟨b, i * 8, none⟩) (n - i) (c - i)) (by simp [Act.eval, Act.put]) (by simp [Act.eval, Act.put]) (hcpB _ (by rw [hW2, hW1]; rfl) _ _ _) ?_)
 go_wp2
 go_ret
 exact ⟨.slice (some ⟨w.heap.size, 0, none⟩) (n + 1) G, rfl, hend _ (by rw [hW2, hW1, hR2]; rfl) rfl rfl rfl⟩
theorem c5t (w : World) (b n c vb voff vc T : Nat) (cs : Array Value) (us : List Value) (hn : n ≤ c) (hc : c ≤ maxLen) (hh : w.heap[b]? = some (.cells cs T (0, 0))) (hs : cs.size = c * 8) (hu : us.length = 8)
  (hvs : ∀ j v, us[j]? = some v → w.cell? ⟨vb, voff + j, none⟩ = some v) (h1 : ∀ u ∈ us, one u) (hb : (n + 1) * 128 ≤ 140737488355328) :
  Calls Tryz.prog 216 #[.slice (some ⟨b, 0, none⟩) n c, .int .i64 n, .slice (some ⟨vb, voff, none⟩) 1 vc] w fun e w' =>
   ∃ v, e = .returned v ∧ InsE w w' 8 (.slice (some ⟨b, 0, none⟩) n c) v n n 1 b c cs us := by
 obtain ⟨inf, z, hinf, hsz, hby, hz, hzc⟩ := a8g
 have u25 := run_underlying Tryz.underlying50
 have z38 : ∀ w, (sizeOf 78).run Tryz.prog w = .ok 8 w := fun w => by simp [sizeOf, typeInfo, hinf, hsz]
 have hc63 : c ≤ 9223372036854775807 := hc
 have mixed := j3.mix
 rcases F7 (P := Tryz.prog) (ty := 50) (w := w) Tryz.underlying50 hinf hz hsz hby hzc (Old.row n b c cs T hh hn hc hs) (m := 1) (us := us) ⟨by rw [hu], .inr (.inr ⟨vb, voff, vc, rfl, hvs⟩)⟩ h1 (by omega) (by simpa using hb) with ⟨_, h, _⟩ | ⟨v, w', b', cap', cs', T', hr, A⟩
 ·cases h
 ·have hend : InsE w w' 8 _ v _ _ 1 b _ cs us := ⟨_, _, _, _, A.ins⟩
  by_cases hcn : n = c
  ·subst hcn
   go_enter Tryz.func216, Tryz.ntmps216
   go_wp2_with (at_builtin; refine Lib.wpList_append_run _ rfl _ _ _ _ rfl _ _ rfl rfl _ _ hr ?_)
   go_ret
   exact ⟨v, rfl, hend⟩
  ·have hcn2 : ¬ (c = n) := fun h => hcn h.symm
   go_enter Tryz.func216, Tryz.ntmps216
   go_wp2_with (at_builtin; refine Lib.wpList_append_run _ rfl _ _ _ _ rfl _ _ rfl rfl _ _ hr ?_)
   go_ret
   exact ⟨v, rfl, hend⟩
theorem c5s (w : World) (b vb voff vc T : Nat) (cs : Array Value) (us : List Value) (hcs : cs = #[]) (hu : us.length = 8)
  (hvs : ∀ j v, us[j]? = some v → w.cell? ⟨vb, voff + j, none⟩ = some v) (h1 : ∀ u ∈ us, one u) :
  Calls Tryz.prog 216 #[.slice none 0 0, .int .i64 0, .slice (some ⟨vb, voff, none⟩) 1 vc] w fun e w' =>
   ∃ v, e = .returned v ∧ InsE w w' 8 (.slice none 0 0) v 0 0 1 b 0 cs us := by
 obtain ⟨inf, z, hinf, hsz, hby, hz, hzc⟩ := a8g
 have u25 := run_underlying Tryz.underlying50
 have z38 : ∀ w, (sizeOf 78).run Tryz.prog w = .ok 8 w := fun w => by simp [sizeOf, typeInfo, hinf, hsz]
 have mixed := j3.mix
 rcases F7 (P := Tryz.prog) (ty := 50) (w := w) Tryz.underlying50 hinf hz hsz hby hzc (Old.nil b 0 cs T hcs rfl) (m := 1) (us := us) ⟨by rw [hu], .inr (.inr ⟨vb, voff, vc, rfl, hvs⟩)⟩ h1 (by omega) (by omega) with ⟨_, _, _, h⟩ | ⟨v, w', b', cap', cs', T', hr, A⟩
 ·cases h
 ·go_enter Tryz.func216, Tryz.ntmps216
  have hend : InsE w w' 8 _ v _ _ 1 b _ cs us := ⟨_, _, _, _, A.ins⟩
  go_wp2_with (at_builtin; refine Lib.wpList_append_run _ rfl _ _ _ _ rfl _ _ rfl rfl _ _ hr ?_)
  all_goals go_ret
  all_goals first | exact ⟨v, rfl, hend⟩ | (have hcn : c = n := by (first | assumption | (symm; assumption) | omega); subst hcn; exact ⟨v, rfl, hend⟩)
theorem insHFn : b6v Tryz.prog 216 .hld := by
 intro w s n b cap cs T i vb vcap vT vcs us hO hi hvb hvh hu hvs h1 h1c hL
 have hs5 : RT.size .hld = 8 := rfl
 have hb5 : RT.bytes .hld = 128 := rfl
 rw [hs5] at *
 rw [hb5] at hL
 cases hO with
 | nil _ _ _ _ hcs hcap =>
  have : i = 0 := by omega
  subst this
  subst hcap
  exact c5s w b vb 0 vcap T cs us hcs hu hvs h1
 | row _ _ _ _ _ hh hnc hcm hcs =>
  rcases Nat.lt_or_ge i n with hlt | hge
  ·rcases Nat.lt_or_ge cap (n + 1) with hr | hr
   ·exact c2k w b n cap i vb 0 vcap T vT cs vcs us hlt hnc hr hcm hh hcs hu hvh hvs h1 h1c hL
   ·exact c2i w b n cap i vb 0 vcap T vT cs vcs us hlt hr hcm hh hcs hu hvh (hvb ⟨_, rfl⟩) hvs h1 h1c
  ·have : i = n := by omega
   subst this
   exact c5t w b i cap vb 0 vcap T cs us hnc hcm hh hcs hu hvs h1 hL
theorem c1U : b7 Tryz.prog 216 (.raw (insM .hld)) :=
 b7F ⟨_, _, Tryz.func216, by kernel_rfl, rfl⟩ insHFn
theorem c2Q : (Tryz.prog.info? 78).map (fun i => (i.zero, i.size, i.bytes)) = some (some (.agg #[.int .i64 0, .int .i64 0, .int .i64 0, .slice none 0 0, .int .i64 0, .slice none 0 0, .slice none 0 0, .slice none 0 0]), 8, 128) := by kernel_rfl
theorem c6l (w : World) (n b c : Nat) (cs : Array Value) (T i : Nat) (hh : w.heap[b]? = some (.cells cs T (0, 0))) (hnc : n ≤ c) (hc : c ≤ maxLen) (hs : cs.size = c * 8) (hi : i < n) (h1c : ∀ u ∈ cs.toList.take (n * 8), one u) :
  Calls Tryz.prog 219 #[.slice (some ⟨b, 0, none⟩) n c, .int .i64 i, .int .i64 ((i : Int) + 1)] w fun e w' => ∃ v cs', e = .returned v ∧ DelE w w' 8 v n i b c cs T cs' := by
 obtain ⟨inf, hinf, hz, hsz, hby⟩ := info_parts c2Q
 obtain ⟨Z, hZ⟩ : ∃ Z : Value, Z = .agg #[.int .i64 0, .int .i64 0, .int .i64 0, .slice none 0 0, .int .i64 0, .slice none 0 0, .slice none 0 0, .slice none 0 0] := ⟨_, rfl⟩
 rw [← hZ] at hz
 have hzc : (Value.cells Z).size = 8 := by rw [hZ]; rfl
 have hzv : ∀ w, (zeroValue 78).run Tryz.prog w = .ok Z w := fun w => by simp [zeroValue, typeInfo, hinf, hz]
 have hz1 : ∀ u ∈ (Value.cells Z).toList, one u := by
  intro u hu
  rw [hZ] at hu
  simp [Value.cells] at hu
  first | (subst hu; rfl) | (rcases hu with rfl | rfl | rfl | rfl <;> rfl)
 clear hZ
 have u25 := run_underlying Tryz.underlying50
 have z38 : ∀ w, (sizeOf 78).run Tryz.prog w = .ok 8 w := fun w => by simp [sizeOf, typeInfo, hinf, hsz]
 have mixed := j3.mix
 have hc63 : c ≤ 9223372036854775807 := hc
 obtain ⟨e1, e2, e3, e4, e5, e6, e7⟩ := a7P (cs := cs) (zs := (Value.cells Z).toList) hs hnc hi (by rw [Array.length_toList]; exact hzc)
 obtain ⟨us, hus⟩ : ∃ us, us = (cs.toList.take (n * 8)).drop ((i + 1) * 8) := ⟨_, rfl⟩
 rw [← hus] at e1 e2 e3
 obtain ⟨A, hA, hsrc⟩ : ∃ A : Addr, (if c = i + 1 then some (⟨b, 0, none⟩ : Addr) else some ⟨b, (i + 1) * 8, none⟩) = some A ∧ (∀ j v, us[j]? = some v → w.drew.cell? (A.add j) = some v) := by
  by_cases h : c = i + 1
  ·refine ⟨⟨b, 0, none⟩, by simp [h], fun j v hj => ?_⟩
   have h0 : us.length = 0 := by rw [e1, show n - (i + 1) = 0 by omega, Nat.zero_mul]
   rw [List.length_eq_zero_iff.1 h0] at hj
   simp at hj
  ·refine ⟨⟨b, (i + 1) * 8, none⟩, by simp [h], fun j v hj => ?_⟩
   rw [hus, List.getElem?_drop, List.getElem?_take] at hj
   rw [u6, show w.drew.cell? ⟨b, (i + 1) * 8 + j, none⟩ = w.cell? ⟨b, (i + 1) * 8 + j, none⟩ from rfl, o7 hh]
   split at hj
   ·simpa using hj
   ·cases hj
 have h1u : ∀ u ∈ us, one u := fun u hu => h1c u (by rw [hus] at hu; exact List.mem_of_mem_drop hu)
 obtain ⟨W1, hW1⟩ : ∃ W1, W1 = wrote w.drew b (i * 8) cs us := ⟨_, rfl⟩
 have hap : ∀ ty, (Builtin.append_ #[50, 50] ty #[.slice (some ⟨b, 0, none⟩) i c, .slice (some A) (n - (i + 1)) (c - (i + 1))]).run Tryz.prog w.drew = .ok (.slice (some ⟨b, 0, none⟩) (i + (n - (i + 1))) c) W1 := fun ty => by
  have := a3P (P := Tryz.prog) (w := w.drew) (ty := ty) (T := 50) (b := b) (n := i) (cap := c) (m := n - (i + 1)) (capx := c - (i + 1)) (a := A) (cs := cs) (us := us) (T0 := T) Tryz.underlying50 hinf hh (by rw [hsz]; exact e1) hsrc (by omega) (by rw [hsz]; exact hs) h1u
  rw [this, hsz, hW1]
 have hh1 : W1.heap[b]? = some (.cells (putAt cs.toList (i * 8) us).toArray T (0, 0)) := by rw [hW1]; exact u9 hh
 have hin : i + (n - (i + 1)) = n - 1 := by omega
 rw [hin] at hap
 have hcl : ∀ (W : World), W.heap = W1.heap → ∀ ty cc, (Builtin.clear_ #[50] ty #[.slice (some ⟨b, (n - 1) * 8, none⟩) 1 cc]).run Tryz.prog W = .ok (.tuple #[]) (wrote W b ((n - 1) * 8) (putAt cs.toList (i * 8) us).toArray (Value.cells Z).toList) := fun W hW ty cc =>
  a3O (T0 := T) Tryz.underlying50 hzv (by rw [hW]; exact hh1) (by rw [e3]; rw [Array.length_toList] at e4; exact e4) hz1
 have hend : ∀ W : World, W.heap = (wrote W1 b ((n - 1) * 8) (putAt cs.toList (i * 8) us).toArray (Value.cells Z).toList).heap → W.os = w.os → W.tape = w.tape → W.output = w.output → DelE w W 8 (.slice (some ⟨b, 0, none⟩) (n - 1) c) n i b c cs T (closed cs 8 n i (Value.cells Z).toList) := fun W hW g1 g2 g3 => by
  refine ⟨rfl, ?_, e5, e6, e7, g1, g2, g3, ?_, fun x hx => ?_⟩
  ·rw [hW, u9 hh1, closed, ← hus]
  ·rw [hW, hW1]; simp [wrote, World.setRow]
  ·rw [hW, r9 hx, hW1, r9 hx]; rfl
 have hw2 : IntKind.i64.wrap ((i : Int) + 1) = ((i + 1 : Nat) : Int) := by rw [IntKind.wrap_i64]; omega
 have hci : ¬ (c = n - 1) := by omega
 have hne : ¬ ((i : Int) = (i : Int) + 1) := by omega
 have htn : ((i : Int) + 1).toNat = i + 1 := by omega
 have hb1 : (0 : Int) ≤ (i : Int) + 1 := by omega
 have hb2 : (i : Int) + 1 ≤ (n : Int) := by omega
 have hb3 : (i : Int) + 1 ≤ (c : Int) := by omega
 have hb4 : i ≤ c := by omega
 have hb5 : (i : Int) ≤ (i : Int) + 1 := by omega
 have hb6 : n - (n - 1) = 1 := by omega
 have hb7 : n - 1 ≤ n := by omega
 have g1 : W1.os = w.os := by rw [hW1]; rfl
 have g2 : W1.tape = w.tape := by rw [hW1]; rfl
 have g3 : W1.output = w.output := by rw [hW1]; rfl
 obtain ⟨zs, hzs⟩ : ∃ zs, zs = (Value.cells Z).toList := ⟨_, rfl⟩
 rw [← hzs] at hcl hend
 clear hzs hzv hz1 hzc hW1
 clear hinf hz hby e1 e2 e3 e4 e5 e6 e7 h1u hsrc hh1 h1c hus
 go_enter Tryz.func219, Tryz.ntmps219
 go_wp2_with fail
 go_region_law_o (refine a1e rfl (.tmp 22) (.tmp 25) 50 rfl _ _ (by simp [Act.eval, Act.put]) (by simp [Act.eval, Act.put]) (hap _) ?_)
 go_wp2_with (at_builtin; refine a0v _ rfl _ 50 rfl _ rfl (hcl _ rfl _ _) ?_)
 all_goals go_ret
 all_goals exact ⟨.slice (some ⟨b, 0, none⟩) (n - 1) c, _, rfl, hend _ rfl g1 g2 g3⟩
theorem delHFn : c0K Tryz.prog 219 .hld := fun w n b cap cs T i hh h1 h2 h3 h4 h5 _ => c6l w n b cap cs T i hh h1 h2 h3 h4 h5
theorem c1Y : b7 Tryz.prog 219 (.raw (delM .hld)) :=
 c6i ⟨_, _, Tryz.func219, by kernel_rfl, rfl⟩ delHFn
end Go.Proofs.YtkclfaldmghkeaaGreat
namespace Go.Proofs.YtkclfaldmghkeaaGreat
open Go.Sx Go.Proofs Go.Mo
end Go.Proofs.YtkclfaldmghkeaaGreat
