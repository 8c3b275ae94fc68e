/-
  slices.Insert of one walker: the library's own text walked, each road.
-/
import Derived.Test.YtfdohbjamanomaaGreatTok
import Derived.Test.YtfdohbjamanomaaGreatS5
set_option linter.unusedVariables false
set_option linter.unusedSimpArgs false
namespace Go.Proofs.YtfdohbjamanomaaGreat
open Go.Sx Go.Proofs Go.RowKit
set_option maxRecDepth 100000
set_option maxHeartbeats 8000000
set_option linter.unusedSimpArgs false
set_option linter.unusedVariables false

theorem ins_info : (Tryz.prog.info? 33).map (fun i => (i.zero, i.size, i.bytes)) = some (some (.agg #[.int .i64 0, .int .i64 0, .int .i64 0, .int .i64 0, .int .i64 0]), 5, 40) := by kernel_rfl
theorem ins_ty : ∃ inf z, Tryz.prog.info? 33 = some inf ∧ inf.size = 5 ∧ inf.bytes = 40 ∧ inf.zero = some z ∧ z.cells.size = 5 := by
  obtain ⟨i0, h1, h2, h3, h4⟩ := info_parts ins_info
  exact ⟨i0, _, h1, h3, h4, h2, rfl⟩

theorem ins_room (w : World) (b n c i vb voff vc T tV : Nat) (cs vcs : Array Value) (us : List Value) (hi : i < n) (hroom : n + 1 ≤ c) (hc : c ≤ maxLen) (hh : w.heap[b]? = some (.cells cs T (0, 0))) (hs : cs.size = c * 5) (hu : us.length = 5)
    (hvh : w.heap[vb]? = some (.cells vcs tV (0, 0))) (hvb : vb ≠ b) (hvs : ∀ j v, us[j]? = some v → w.cell? ⟨vb, voff + j, none⟩ = some v) (h1 : ∀ u ∈ us, one u) (h1c : ∀ u ∈ cs.toList.take (n * 5), one u) :
    Calls Tryz.prog 139 #[.slice (some ⟨b, 0, none⟩) n c, .int .i64 i, .slice (some ⟨vb, voff, none⟩) 1 vc] w fun e w' =>
      ∃ v, e = .returned v ∧ InsE w w' 5 (.slice (some ⟨b, 0, none⟩) n c) v n i 1 b c cs us := by
  obtain ⟨inf, z, hinf, hsz, hby, hz, hzc⟩ := ins_ty
  have u25 := run_underlying Tryz.underlying25
  have z38 : ∀ w, (sizeOf 33).run Tryz.prog w = .ok 5 w := fun w => by simp [sizeOf, typeInfo, hinf, hsz]
  have hc63 : c ≤ 9223372036854775807 := hc
  have hcb : n + 1 ≤ 9223372036854775807 := by omega
  have hkB : cs.size ≠ 0 := by rw [hs]; omega
  have hov : ∀ lb cb, (callFunc 147 #[.slice (some ⟨vb, voff, none⟩) 1 vc, .slice (some ⟨b, (i + 1) * 5, none⟩) lb cb]).run Tryz.prog w = .ok (.value (.bool false)) w := fun lb cb => by
    rw [run_callFunc_extern Tryz.func147 (by kernel_rfl) (by kernel_rfl) (by kernel_rfl) (e := Extern.SlicesOverlaps.overlaps #[25, 25] #[4]) (by kernel_rfl),
      Lib.run_overlaps_apart w 25 4 33 Tryz.underlying25 5 z38 ⟨vb, voff, none⟩ ⟨b, (i + 1) * 5, none⟩ 1 vc lb cb hvb tV T vcs.size cs.size (by simp [World.shape?, hvh]) (by simp [World.shape?, hh]) hkB (frozen_of_row _ _ _ _ _ hvh) (frozen_of_row _ _ _ _ _ hvh)]
    rfl
  have hw1 : IntKind.i64.wrap ((n : Int) + 1) = ((n + 1 : Nat) : Int) := by rw [IntKind.wrap_i64]; omega
  have hw2 : IntKind.i64.wrap ((i : Int) + 1) = ((i + 1 : Nat) : Int) := by rw [IntKind.wrap_i64]; omega
  have hne : ¬ ((i : Int) = (n : Int)) := by omega
  have mixed := tabOk.mix
  have hb1 : (0 : Int) ≤ (i : Int) + 1 := by omega
  have hin : i ≤ n := by omega
  have hb2 : ¬ (c = i + 1) := by omega
  have hb3 : (i : Int) ≤ (n : Int) + 1 := by omega
  have hb4 : ¬ (c = i) := by omega
  have htn : ((i : Int) + 1).toNat = i + 1 := by omega
  go_enter Tryz.func139, Tryz.ntmps139
  go_wp2_with (simp only [hov])
  clear hov
  have htl := tail_len (i := i) hs (show n ≤ c by omega)
  have hn5 : (n + 1) * 5 ≤ c * 5 := Nat.mul_le_mul_right _ hroom
  have hsrc : ∀ j v, ((cs.toList.take (n * 5)).drop (i * 5))[j]? = some v → w.cell? ⟨b, i * 5 + j, none⟩ = some v := fun j v hj => by
    rw [List.getElem?_drop, List.getElem?_take] at hj
    rw [cell_at hh]
    split at hj
    · simpa using hj
    · cases hj
  have hcp1 : ∀ ty dc sc, (Builtin.copy_ #[25, 25] ty #[.slice (some ⟨b, (i + 1) * 5, none⟩) (n - i) dc, .slice (some ⟨b, i * 5, none⟩) (n + 1 - i) sc]).run Tryz.prog w.drew = .ok (goInt (n - i : Nat)) (wrote w.drew b ((i + 1) * 5) cs ((cs.toList.take (n * 5)).drop (i * 5))) := fun ty dc sc =>
    run_copy_big (k := n - i) (us := (cs.toList.take (n * 5)).drop (i * 5)) Tryz.underlying25 hinf (by simp only [Nat.min_def]; split <;> omega) (by rw [hsz]; exact htl) (fun j v hj => by
      rw [addr_add]
      exact hsrc j v hj) hh (by rw [htl, hs]; omega) (fun u hu => h1c u (List.mem_of_mem_drop hu))
  go_region_law_o (refine step_copy_runI rfl _ _ 25 25 rfl _ _ (by simp [Act.eval, Act.put]) (by simp [Act.eval, Act.put]) (hcp1 _ _ _) ?_)
  have htl2 : ((cs.toList.take (n * 5)).drop (i * 5)).length = (n - i) * 5 := htl
  obtain ⟨cs1, hcs1⟩ : ∃ cs1, cs1 = (putAt cs.toList ((i + 1) * 5) ((cs.toList.take (n * 5)).drop (i * 5))).toArray := ⟨_, rfl⟩
  obtain ⟨W1, hW1⟩ : ∃ W1, W1 = wrote w.drew b ((i + 1) * 5) cs ((cs.toList.take (n * 5)).drop (i * 5)) := ⟨_, rfl⟩
  have hh1 : W1.heap[b]? = some (.cells cs1 T (0, 0)) := by rw [hW1, hcs1]; exact wrote_heap hh
  have hv1 : W1.heap[vb]? = some (.cells vcs tV (0, 0)) := by rw [hW1, wrote_other hvb]; exact hvh
  have hsz1 : cs1.size = c * 5 := by rw [hcs1, List.size_toArray, putAt_length _ _ _ (by rw [htl2, Array.length_toList, hs]; omega), Array.length_toList, hs]
  have hcp2 : ∀ (W : World), W.heap = W1.heap → ∀ ty dc, (Builtin.copy_ #[25, 25] ty #[.slice (some ⟨b, i * 5, none⟩) (n + 1 - i) dc, .slice (some ⟨vb, voff, none⟩) 1 vc]).run Tryz.prog W = .ok (goInt (1 : Nat)) (wrote W b (i * 5) cs1 us) := fun W hW ty dc =>
    run_copy_big (k := 1) (us := us) (T := T) Tryz.underlying25 hinf (by simp only [Nat.min_def]; split <;> omega) (by rw [hsz, hu]) (fun j v hj => by
      rw [addr_add, cell_at (cs := vcs) (T := tV) (by rw [hW]; exact hv1)]
      have := hvs j v hj
      rw [cell_at hvh] at this
      exact this) (by rw [hW]; exact hh1) (by rw [hu, hsz1]; omega) h1
  rw [← hW1]
  go_wp2_with (at_builtin; refine wpList_copy_runI _ rfl _ _ 25 25 rfl _ _ rfl rfl (hcp2 _ rfl _ _) ?_)
  have hend : InsM w (wrote W1 b (i * 5) cs1 us) 5 (.slice (some ⟨b, 0, none⟩) n c) (.slice (some ⟨b, 0, none⟩) (n + 1) c) n i 1 b c cs us b c (shifted cs 5 n i us).toArray T := by
    refine InsM.room hh hs hroom hc hi hu ?_ (fun x hx => ?_) ?_ ?_ ?_ ?_
    · rw [wrote_heap hh1, shifted, hcs1]
    · rw [wrote_other hx, hW1, wrote_other hx]; rfl
    · rw [hW1]; rfl
    · rw [hW1]; rfl
    · rw [hW1]; rfl
    · rw [hW1]; simp [wrote, World.setRow]
  subst hcs1
  subst hW1
  go_ret
  exact ⟨.slice (some ⟨b, 0, none⟩) (n + 1) c, rfl, _, _, _, _, hend⟩

theorem ins_grow (w : World) (b n c i vb voff vc T tV : Nat) (cs vcs : Array Value) (us : List Value) (hi : i < n) (hnc : n ≤ c) (hroom : c < n + 1) (hc : c ≤ maxLen) (hh : w.heap[b]? = some (.cells cs T (0, 0))) (hs : cs.size = c * 5) (hu : us.length = 5)
    (hvh : w.heap[vb]? = some (.cells vcs tV (0, 0))) (hvs : ∀ j v, us[j]? = some v → w.cell? ⟨vb, voff + j, none⟩ = some v) (h1 : ∀ u ∈ us, one u) (h1c : ∀ u ∈ cs.toList.take (n * 5), one u) (hbig : (n + 1) * 40 ≤ 140737488355328) :
    Calls Tryz.prog 139 #[.slice (some ⟨b, 0, none⟩) n c, .int .i64 i, .slice (some ⟨vb, voff, none⟩) 1 vc] w fun e w' =>
      ∃ v, e = .returned v ∧ InsE w w' 5 (.slice (some ⟨b, 0, none⟩) n c) v n i 1 b c cs us := by
  obtain ⟨inf, z, hinf, hsz, hby, hz, hzc⟩ := ins_ty
  have u25 := run_underlying Tryz.underlying25
  have z38 : ∀ w, (sizeOf 33).run Tryz.prog w = .ok 5 w := fun w => by simp [sizeOf, typeInfo, hinf, hsz]
  have mixed := tabOk.mix
  have hc63 : c ≤ 9223372036854775807 := hc
  have hsrc : ∀ j v, ((cs.toList.take (n * 5)).drop (i * 5))[j]? = some v → w.cell? ⟨b, i * 5 + j, none⟩ = some v := fun j v hj => by
    rw [List.getElem?_drop, List.getElem?_take] at hj
    rw [cell_at hh]
    split at hj
    · simpa using hj
    · cases hj
  have hi5 : (i + 1) * 5 ≤ c * 5 := Nat.mul_le_mul_right _ (by omega)
  have hold : (Builtin.firstCells inf.size i (.slice (some ⟨b, 0, none⟩) i c)).run Tryz.prog w.drew = .ok (cs.toList.take (i * 5)).toArray w.drew := by
    rw [hsz]
    exact run_firstCells_some w.drew 5 i ⟨b, 0, none⟩ i c (cs.toList.take (i * 5)) (by rw [List.length_take, Array.length_toList, hs]; omega) (fun j v hj => by
      rw [addr_add, Nat.zero_add, show w.drew.cell? ⟨b, j, none⟩ = w.cell? ⟨b, j, none⟩ from rfl, cell_at hh]
      rw [List.getElem?_take] at hj
      split at hj
      · simpa using hj
      · cases hj)
  have hik : i + (n + 1 - i) = n + 1 := by omega
  have hkk : (n : Int) + 1 - (i : Int) = ((n + 1 - i : Nat) : Int) := by omega
  have hrz : ∀ ty, (Builtin.append_ #[25, 3] ty #[.slice (some ⟨b, 0, none⟩) i c, .int .i64 ((n : Int) + 1 - (i : Int))]).run Tryz.prog w =
      .ok (.slice (some ⟨w.heap.size, 0, none⟩) (n + 1) (grownCap w (n + 1) c 33)) (w.drew.alloc (.cells ((cs.toList.take (i * 5)).toArray ++ Builtin.zeroCells z.cells (n + 1 - i) ++ Builtin.zeroCells z.cells (grownCap w (n + 1) c 33 - (n + 1))) 33)) := fun ty => by
    have h := Lib.run_append_grow_zeros w 25 3 ty 33 inf z .i64 .i64 Tryz.underlying25 Tryz.underlying3 hinf hz (some ⟨b, 0, none⟩) i c (cs.toList.take (i * 5)) hold (n + 1 - i) (by omega) (by omega) (by omega) (by omega) (by rw [hby]; omega) (by rw [hby, hik]; exact growslice_fits hroom hbig)
    rw [hik] at h
    rw [hkk]
    exact h
  obtain ⟨G, hG⟩ : ∃ G, G = grownCap w (n + 1) c 33 := ⟨_, rfl⟩
  have hGn : n + 1 ≤ G := by rw [hG]; exact grownCap_ge w _ _ _
  have hGm : G ≤ maxLen := by rw [hG]; exact grownCap_le_maxLen w (n + 1) c _ (by unfold maxLen; omega)
  have hG63 : G ≤ 9223372036854775807 := hGm
  obtain ⟨ROW, hROW⟩ : ∃ ROW : Array Value, ROW = (cs.toList.take (i * 5)).toArray ++ Builtin.zeroCells z.cells (n + 1 - i) ++ Builtin.zeroCells z.cells (G - (n + 1)) := ⟨_, rfl⟩
  rw [← hG] at hrz
  rw [← hROW] at hrz
  have hRl : ROW.toList.length = G * 5 := by
    rw [hROW, Array.length_toList]
    simp only [Array.size_append, List.size_toArray, size_zeroCells, hzc, List.length_take, Array.length_toList, hs]
    omega
  have hR0 : ∀ o, o < i * 5 → ROW.toList[o]? = cs[o]? := fun o ho => by
    have hl : (cs.toList.take (i * 5)).length = i * 5 := by rw [List.length_take, Array.length_toList, hs]; omega
    rw [hROW]
    simp only [Array.toList_append]
    rw [List.append_assoc, List.getElem?_append_left (by rw [List.toList_toArray, hl]; exact ho), List.toList_toArray, List.getElem?_take, if_pos ho]
    simp
  have htl := tail_len (i := i) hs hnc
  have hbw : b < w.heap.size := by
    rcases Nat.lt_or_ge b w.heap.size with h | h
    · exact h
    · rw [Array.getElem?_eq_none h] at hh; cases hh
  have hvw : vb < w.heap.size := by
    rcases Nat.lt_or_ge vb w.heap.size with h | h
    · exact h
    · rw [Array.getElem?_eq_none h] at hvh; cases hvh
  obtain ⟨W1, hW1⟩ : ∃ W1, W1 = w.drew.alloc (.cells ROW 33) := ⟨_, rfl⟩
  rw [← hW1] at hrz
  have hN1 : W1.heap[w.heap.size]? = some (.cells ROW 33 (0, 0)) := by rw [hW1]; exact alloc_new' w _
  have hO1 : ∀ x, x < w.heap.size → W1.heap[x]? = w.heap[x]? := fun x hx => by rw [hW1]; exact alloc_old' w _ x hx
  obtain ⟨R2, hR2⟩ : ∃ R2, R2 = (putAt ROW.toList (i * 5) us).toArray := ⟨_, rfl⟩
  have hG5 : (n + 1) * 5 ≤ G * 5 := Nat.mul_le_mul_right _ hGn
  have hR2l : R2.size = G * 5 := by rw [hR2, List.size_toArray, putAt_length _ _ _ (by rw [hu, hRl]; omega), hRl]
  have hcpA : ∀ (W : World), W.heap = W1.heap → ∀ ty dc, (Builtin.copy_ #[25, 25] ty #[.slice (some ⟨w.heap.size, i * 5, none⟩) (n + 1 - i) dc, .slice (some ⟨vb, voff, none⟩) 1 vc]).run Tryz.prog W = .ok (goInt (1 : Nat)) (wrote W w.heap.size (i * 5) ROW us) := fun W hW ty dc =>
    run_copy_big (k := 1) (us := us) (T := 33) Tryz.underlying25 hinf (by simp only [Nat.min_def]; split <;> omega) (by rw [hsz, hu]) (fun j v hj => by
      rw [addr_add, cell_at (cs := vcs) (T := tV) (by rw [hW, hO1 _ hvw]; exact hvh)]
      have := hvs j v hj
      rw [cell_at hvh] at this
      exact this) (by rw [hW]; exact hN1) (by rw [hu, ← Array.length_toList, hRl]; omega) h1
  obtain ⟨W2, hW2⟩ : ∃ W2, W2 = wrote W1 w.heap.size (i * 5) ROW us := ⟨_, rfl⟩
  have hcpB : ∀ (W : World), W.heap = W2.heap → ∀ ty dc sc, (Builtin.copy_ #[25, 25] ty #[.slice (some ⟨w.heap.size, (i + 1) * 5, none⟩) (n - i) dc, .slice (some ⟨b, i * 5, none⟩) (n - i) sc]).run Tryz.prog W = .ok (goInt (n - i : Nat)) (wrote W w.heap.size ((i + 1) * 5) R2 ((cs.toList.take (n * 5)).drop (i * 5))) := fun W hW ty dc sc =>
    run_copy_big (k := n - i) (us := (cs.toList.take (n * 5)).drop (i * 5)) (T := 33) Tryz.underlying25 hinf (by simp only [Nat.min_def]; split <;> omega) (by rw [hsz, htl]) (fun j v hj => by
      rw [addr_add, cell_at (cs := cs) (T := T) (by rw [hW, hW2, wrote_other (by omega), hO1 _ hbw]; exact hh)]
      have := hsrc j v hj
      rw [cell_at hh] at this
      exact this) (by rw [hW, hW2, hR2]; exact wrote_heap hN1) (by rw [htl, hR2l]; omega) (fun u hu => h1c u (List.mem_of_mem_drop hu))
  have hGi : ¬ (G = i) := by omega
  have hGim : ¬ (G = i + 1) := by omega
  have hci : ¬ (c = i) := by omega
  have hw1 : IntKind.i64.wrap ((n : Int) + 1) = ((n + 1 : Nat) : Int) := by rw [IntKind.wrap_i64]; omega
  have hw2 : IntKind.i64.wrap ((i : Int) + 1) = ((i + 1 : Nat) : Int) := by rw [IntKind.wrap_i64]; omega
  have hb1 : (0 : Int) ≤ (i : Int) + 1 := by omega
  have hin : i ≤ n := by omega
  have htn : ((i : Int) + 1).toNat = i + 1 := by omega
  have hb3 : (i : Int) ≤ (n : Int) := by omega
  have hne : ¬ ((i : Int) = (n : Int)) := by omega
  have hend : ∀ W : World, W.heap = (wrote W2 w.heap.size ((i + 1) * 5) R2 ((cs.toList.take (n * 5)).drop (i * 5))).heap → W.os = w.os → W.tape = w.tape → W.output = w.output → InsE w W 5 (.slice (some ⟨b, 0, none⟩) n c) (.slice (some ⟨w.heap.size, 0, none⟩) (n + 1) G) n i 1 b c cs us := fun W hW g1 g2 g3 => by
    refine ⟨_, _, _, 33, InsM.grow (row := ROW.toList) hRl hs hnc hGn hGm hi hu hR0 ?_ rfl ?_ (fun x hx => ?_) g1 g2 g3⟩
    · rw [hW, wrote_heap (T := 33) (by rw [hW2, hR2]; exact wrote_heap hN1), grownL, hR2]
    · rw [hW, hW2, hW1]; simp [wrote, World.setRow, World.alloc]
    · rw [hW, wrote_other (by omega), hW2, wrote_other (by omega)]; exact hO1 x hx
  clear hkk hik hold hROW hG hRl hR0
  go_enter Tryz.func139, Tryz.ntmps139
  go_wp2_with (first
    | (at_builtin; refine Lib.wpList_append_run _ rfl _ _ _ _ rfl _ _ rfl rfl _ _ (hrz _) ?_)
    | (at_builtin; refine wpList_copy_runI _ rfl _ _ 25 25 rfl _ _ rfl rfl (hcpA _ rfl _ _) ?_))
  go_region_law_o (refine step_copy_runI rfl _ _ 25 25 rfl (.slice (some ⟨w.heap.size, (i + 1) * 5, none⟩) (n - i) (G - (i + 1))) (.slice (some ⟨b, i * 5, none⟩) (n - i) (c - i)) (by simp [Act.eval, Act.put]) (by simp [Act.eval, Act.put]) (hcpB _ (by rw [hW2, hW1]; rfl) _ _ _) ?_)
  go_wp2
  go_ret
  exact ⟨.slice (some ⟨w.heap.size, 0, none⟩) (n + 1) G, rfl, hend _ (by rw [hW2, hW1, hR2]; rfl) rfl rfl rfl⟩

theorem ins_end (w : World) (b n c vb voff vc T : Nat) (cs : Array Value) (us : List Value) (hn : n ≤ c) (hc : c ≤ maxLen) (hh : w.heap[b]? = some (.cells cs T (0, 0))) (hs : cs.size = c * 5) (hu : us.length = 5)
    (hvs : ∀ j v, us[j]? = some v → w.cell? ⟨vb, voff + j, none⟩ = some v) (h1 : ∀ u ∈ us, one u) (hb : (n + 1) * 40 ≤ 140737488355328) :
    Calls Tryz.prog 139 #[.slice (some ⟨b, 0, none⟩) n c, .int .i64 n, .slice (some ⟨vb, voff, none⟩) 1 vc] w fun e w' =>
      ∃ v, e = .returned v ∧ InsE w w' 5 (.slice (some ⟨b, 0, none⟩) n c) v n n 1 b c cs us := by
  obtain ⟨inf, z, hinf, hsz, hby, hz, hzc⟩ := ins_ty
  have u25 := run_underlying Tryz.underlying25
  have z38 : ∀ w, (sizeOf 33).run Tryz.prog w = .ok 5 w := fun w => by simp [sizeOf, typeInfo, hinf, hsz]
  have hc63 : c ≤ 9223372036854775807 := hc
  have mixed := tabOk.mix
  rcases run_append_all (P := Tryz.prog) (ty := 25) (w := w) Tryz.underlying25 hinf hz hsz hby hzc (Old.row n b c cs T hh hn hc hs) (m := 1) (us := us) ⟨by rw [hu], .inr (.inr ⟨vb, voff, vc, rfl, hvs⟩)⟩ h1 (by omega) (by simpa using hb) with ⟨_, h, _⟩ | ⟨v, w', b', cap', cs', T', hr, A⟩
  · cases h
  · have hend : InsE w w' 5 _ v _ _ 1 b _ cs us := ⟨_, _, _, _, A.ins⟩
    by_cases hcn : n = c
    · subst hcn
      go_enter Tryz.func139, Tryz.ntmps139
      go_wp2_with (at_builtin; refine Lib.wpList_append_run _ rfl _ _ _ _ rfl _ _ rfl rfl _ _ hr ?_)
      go_ret
      exact ⟨v, rfl, hend⟩
    · have hcn2 : ¬ (c = n) := fun h => hcn h.symm
      go_enter Tryz.func139, Tryz.ntmps139
      go_wp2_with (at_builtin; refine Lib.wpList_append_run _ rfl _ _ _ _ rfl _ _ rfl rfl _ _ hr ?_)
      go_ret
      exact ⟨v, rfl, hend⟩

theorem ins_nil (w : World) (b vb voff vc T : Nat) (cs : Array Value) (us : List Value) (hcs : cs = #[]) (hu : us.length = 5)
    (hvs : ∀ j v, us[j]? = some v → w.cell? ⟨vb, voff + j, none⟩ = some v) (h1 : ∀ u ∈ us, one u) :
    Calls Tryz.prog 139 #[.slice none 0 0, .int .i64 0, .slice (some ⟨vb, voff, none⟩) 1 vc] w fun e w' =>
      ∃ v, e = .returned v ∧ InsE w w' 5 (.slice none 0 0) v 0 0 1 b 0 cs us := by
  obtain ⟨inf, z, hinf, hsz, hby, hz, hzc⟩ := ins_ty
  have u25 := run_underlying Tryz.underlying25
  have z38 : ∀ w, (sizeOf 33).run Tryz.prog w = .ok 5 w := fun w => by simp [sizeOf, typeInfo, hinf, hsz]
  have mixed := tabOk.mix
  rcases run_append_all (P := Tryz.prog) (ty := 25) (w := w) Tryz.underlying25 hinf hz hsz hby hzc (Old.nil b 0 cs T hcs rfl) (m := 1) (us := us) ⟨by rw [hu], .inr (.inr ⟨vb, voff, vc, rfl, hvs⟩)⟩ h1 (by omega) (by omega) with ⟨_, _, _, h⟩ | ⟨v, w', b', cap', cs', T', hr, A⟩
  · cases h
  · go_enter Tryz.func139, Tryz.ntmps139
    have hend : InsE w w' 5 _ v _ _ 1 b _ cs us := ⟨_, _, _, _, A.ins⟩
    go_wp2_with (at_builtin; refine Lib.wpList_append_run _ rfl _ _ _ _ rfl _ _ rfl rfl _ _ hr ?_)
    all_goals go_ret
    all_goals first | exact ⟨v, rfl, hend⟩ | (have hcn : c = n := by (first | assumption | (symm; assumption) | omega); subst hcn; exact ⟨v, rfl, hend⟩)

theorem insFn : InsFn Tryz.prog 139 .wlk := by
  intro w s n b cap cs T i vb vcap vT vcs us hO hi hvb hvh hu hvs h1 h1c hL
  have hs5 : RT.size .wlk = 5 := rfl
  have hb5 : RT.bytes .wlk = 40 := rfl
  rw [hs5] at *
  rw [hb5] at hL
  cases hO with
  | nil _ _ _ _ hcs hcap =>
    have : i = 0 := by omega
    subst this
    subst hcap
    exact ins_nil w b vb 0 vcap T cs us hcs hu hvs h1
  | row _ _ _ _ _ hh hnc hcm hcs =>
    rcases Nat.lt_or_ge i n with hlt | hge
    · rcases Nat.lt_or_ge cap (n + 1) with hr | hr
      · exact ins_grow w b n cap i vb 0 vcap T vT cs vcs us hlt hnc hr hcm hh hcs hu hvh hvs h1 h1c hL
      · exact ins_room w b n cap i vb 0 vcap T vT cs vcs us hlt hr hcm hh hcs hu hvh (hvb ⟨_, rfl⟩) hvs h1 h1c
    · have : i = n := by omega
      subst this
      exact ins_end w b i cap vb 0 vcap T cs us hnc hcm hh hcs hu hvs h1 hL

theorem okInsert : SpecOk1 Tryz.prog 139 (.raw (insM .wlk)) :=
  ins_ok ⟨_, _, Tryz.func139, by kernel_rfl, rfl⟩ insFn

end Go.Proofs.YtfdohbjamanomaaGreat
