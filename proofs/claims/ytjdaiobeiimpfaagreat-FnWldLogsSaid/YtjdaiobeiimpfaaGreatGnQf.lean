/-
  slices.Insert of one GstGhost: the library's own text walked, each road.
-/
import Derived.Test.YtjdaiobeiimpfaaGreatTok
import Derived.Test.YtjdaiobeiimpfaaGreatS5
import Derived.Test.YtjdaiobeiimpfaaGreatGrT
import Derived.Test.YtjdaiobeiimpfaaGreatM2
import Derived.Test.YtjdaiobeiimpfaaGreatGnC
import Derived.Test.YtjdaiobeiimpfaaGreatGnM
import Derived.Test.YtjdaiobeiimpfaaGreatGnO
import Derived.Test.YtjdaiobeiimpfaaGreatGnP
import Derived.Test.YtjdaiobeiimpfaaGreatM3
set_option linter.unusedVariables false
set_option linter.unusedSimpArgs false
set_option maxRecDepth 100000
set_option maxHeartbeats 8000000
namespace Go.Proofs.YtjdaiobeiimpfaaGreat
open Go.Sx Go.Proofs Go.RowKit
theorem insG_info : (Tryz.prog.info? 59).map (fun i => (i.zero, i.size, i.bytes)) = some (some (.agg #[.int .i64 0, .int .i64 0, .int .i64 0, .int .i64 0, .int .i64 0, .int .i64 0, .int .i64 0]), 7, 56) := by kernel_rfl
theorem insG_ty : ∃ inf z, Tryz.prog.info? 59 = some inf ∧ inf.size = 7 ∧ inf.bytes = 56 ∧ inf.zero = some z ∧ z.cells.size = 7 := by
 obtain ⟨i0, h1, h2, h3, h4⟩ := info_parts insG_info
 exact ⟨i0, _, h1, h3, h4, h2, rfl⟩
theorem insG_room (w : World) (b n c i vb voff vc T tV : Nat) (cs vcs : Array Value) (us : List Value) (hi : i < n) (hroom : n + 1 ≤ c) (hc : c ≤ maxLen) (hh : w.heap[b]? = some (.cells cs T (0, 0))) (hs : cs.size = c * 7) (hu : us.length = 7)
  (hvh : w.heap[vb]? = some (.cells vcs tV (0, 0))) (hvb : vb ≠ b) (hvs : ∀ j v, us[j]? = some v → w.cell? ⟨vb, voff + j, none⟩ = some v) (h1 : ∀ u ∈ us, one u) (h1c : ∀ u ∈ cs.toList.take (n * 7), one u) :
  Calls Tryz.prog 195 #[.slice (some ⟨b, 0, none⟩) n c, .int .i64 i, .slice (some ⟨vb, voff, none⟩) 1 vc] w fun e w' =>
   ∃ v, e = .returned v ∧ InsE w w' 7 (.slice (some ⟨b, 0, none⟩) n c) v n i 1 b c cs us := by
 obtain ⟨inf, z, hinf, hsz, hby, hz, hzc⟩ := insG_ty
 have u25 := run_underlying Tryz.underlying63
 have z38 : ∀ w, (sizeOf 59).run Tryz.prog w = .ok 7 w := fun w => by simp [sizeOf, typeInfo, hinf, hsz]
 have hc63 : c ≤ 9223372036854775807 := hc
 have hcb : n + 1 ≤ 9223372036854775807 := by omega
 have hkB : cs.size ≠ 0 := by rw [hs]; omega
 have hov : ∀ lb cb, (callFunc 223 #[.slice (some ⟨vb, voff, none⟩) 1 vc, .slice (some ⟨b, (i + 1) * 7, none⟩) lb cb]).run Tryz.prog w = .ok (.value (.bool false)) w := fun lb cb => by
  rw [run_callFunc_extern Tryz.func223 (by kernel_rfl) (by kernel_rfl) (by kernel_rfl) (e := Extern.SlicesOverlaps.overlaps #[63, 63] #[4]) (by kernel_rfl),
   Lib.run_overlaps_apart w 63 4 59 Tryz.underlying63 7 z38 ⟨vb, voff, none⟩ ⟨b, (i + 1) * 7, none⟩ 1 vc lb cb hvb tV T vcs.size cs.size (by simp [World.shape?, hvh]) (by simp [World.shape?, hh]) hkB (frozen_of_row _ _ _ _ _ hvh) (frozen_of_row _ _ _ _ _ hvh)]
  rfl
 have hw1 : IntKind.i64.wrap ((n : Int) + 1) = ((n + 1 : Nat) : Int) := by rw [IntKind.wrap_i64]; omega
 have hw2 : IntKind.i64.wrap ((i : Int) + 1) = ((i + 1 : Nat) : Int) := by rw [IntKind.wrap_i64]; omega
 have hne : ¬ ((i : Int) = (n : Int)) := by omega
 have mixed := tabOk.mix
 have hb1 : (0 : Int) ≤ (i : Int) + 1 := by omega
 have hin : i ≤ n := by omega
 have hb2 : ¬ (c = i + 1) := by omega
 have hb3 : (i : Int) ≤ (n : Int) + 1 := by omega
 have hb4 : ¬ (c = i) := by omega
 have htn : ((i : Int) + 1).toNat = i + 1 := by omega
 go_enter Tryz.func195, Tryz.ntmps195
 go_wp2_with (simp only [hov])
 clear hov
 have htl := tail_len (i := i) hs (show n ≤ c by omega)
 have hn5 : (n + 1) * 7 ≤ c * 7 := Nat.mul_le_mul_right _ hroom
 have hsrc : ∀ j v, ((cs.toList.take (n * 7)).drop (i * 7))[j]? = some v → w.cell? ⟨b, i * 7 + j, none⟩ = some v := fun j v hj => by
  rw [List.getElem?_drop, List.getElem?_take] at hj
  rw [cell_at hh]
  split at hj
  ·simpa using hj
  ·cases hj
 have hcp1 : ∀ ty dc sc, (Builtin.copy_ #[63, 63] ty #[.slice (some ⟨b, (i + 1) * 7, none⟩) (n - i) dc, .slice (some ⟨b, i * 7, none⟩) (n + 1 - i) sc]).run Tryz.prog w.drew = .ok (goInt (n - i : Nat)) (wrote w.drew b ((i + 1) * 7) cs ((cs.toList.take (n * 7)).drop (i * 7))) := fun ty dc sc =>
  run_copy_big (k := n - i) (us := (cs.toList.take (n * 7)).drop (i * 7)) Tryz.underlying63 hinf (by simp only [Nat.min_def]; split <;> omega) (by rw [hsz]; exact htl) (fun j v hj => by
   rw [addr_add]
   exact hsrc j v hj) hh (by rw [htl, hs]; omega) (fun u hu => h1c u (List.mem_of_mem_drop hu))
 go_region_law_o (refine step_copy_runI rfl _ _ 63 63 rfl _ _ (by simp [Act.eval, Act.put]) (by simp [Act.eval, Act.put]) (hcp1 _ _ _) ?_)
 have htl2 : ((cs.toList.take (n * 7)).drop (i * 7)).length = (n - i) * 7 := htl
 obtain ⟨cs1, hcs1⟩ : ∃ cs1, cs1 = (putAt cs.toList ((i + 1) * 7) ((cs.toList.take (n * 7)).drop (i * 7))).toArray := ⟨_, rfl⟩
 obtain ⟨W1, hW1⟩ : ∃ W1, W1 = wrote w.drew b ((i + 1) * 7) cs ((cs.toList.take (n * 7)).drop (i * 7)) := ⟨_, rfl⟩
 have hh1 : W1.heap[b]? = some (.cells cs1 T (0, 0)) := by rw [hW1, hcs1]; exact wrote_heap hh
 have hv1 : W1.heap[vb]? = some (.cells vcs tV (0, 0)) := by rw [hW1, wrote_other hvb]; exact hvh
 have hsz1 : cs1.size = c * 7 := by rw [hcs1, List.size_toArray, putAt_length _ _ _ (by rw [htl2, Array.length_toList, hs]; omega), Array.length_toList, hs]
 have hcp2 : ∀ (W : World), W.heap = W1.heap → ∀ ty dc, (Builtin.copy_ #[63, 63] ty #[.slice (some ⟨b, i * 7, none⟩) (n + 1 - i) dc, .slice (some ⟨vb, voff, none⟩) 1 vc]).run Tryz.prog W = .ok (goInt (1 : Nat)) (wrote W b (i * 7) cs1 us) := fun W hW ty dc =>
  run_copy_big (k := 1) (us := us) (T := T) Tryz.underlying63 hinf (by simp only [Nat.min_def]; split <;> omega) (by rw [hsz, hu]) (fun j v hj => by
   rw [addr_add, cell_at (cs := vcs) (T := tV) (by rw [hW]; exact hv1)]
   have := hvs j v hj
   rw [cell_at hvh] at this
   exact this) (by rw [hW]; exact hh1) (by rw [hu, hsz1]; omega) h1
 rw [← hW1]
 go_wp2_with (at_builtin; refine wpList_copy_runI _ rfl _ _ 63 63 rfl _ _ rfl rfl (hcp2 _ rfl _ _) ?_)
 have hend : InsM w (wrote W1 b (i * 7) cs1 us) 7 (.slice (some ⟨b, 0, none⟩) n c) (.slice (some ⟨b, 0, none⟩) (n + 1) c) n i 1 b c cs us b c (shifted cs 7 n i us).toArray T := by
  refine InsM.room hh hs hroom hc hi hu ?_ (fun x hx => ?_) ?_ ?_ ?_ ?_
  ·rw [wrote_heap hh1, shifted, hcs1]
  ·rw [wrote_other hx, hW1, wrote_other hx]; rfl
  ·rw [hW1]; rfl
  ·rw [hW1]; rfl
  ·rw [hW1]; rfl
  ·rw [hW1]; simp [wrote, World.setRow]
 subst hcs1
 subst hW1
 go_ret
 exact ⟨.slice (some ⟨b, 0, none⟩) (n + 1) c, rfl, _, _, _, _, hend⟩
theorem insG_grow (w : World) (b n c i vb voff vc T tV : Nat) (cs vcs : Array Value) (us : List Value) (hi : i < n) (hnc : n ≤ c) (hroom : c < n + 1) (hc : c ≤ maxLen) (hh : w.heap[b]? = some (.cells cs T (0, 0))) (hs : cs.size = c * 7) (hu : us.length = 7)
  (hvh : w.heap[vb]? = some (.cells vcs tV (0, 0))) (hvs : ∀ j v, us[j]? = some v → w.cell? ⟨vb, voff + j, none⟩ = some v) (h1 : ∀ u ∈ us, one u) (h1c : ∀ u ∈ cs.toList.take (n * 7), one u) (hbig : (n + 1) * 56 ≤ 140737488355328) :
  Calls Tryz.prog 195 #[.slice (some ⟨b, 0, none⟩) n c, .int .i64 i, .slice (some ⟨vb, voff, none⟩) 1 vc] w fun e w' =>
   ∃ v, e = .returned v ∧ InsE w w' 7 (.slice (some ⟨b, 0, none⟩) n c) v n i 1 b c cs us := by
 obtain ⟨inf, z, hinf, hsz, hby, hz, hzc⟩ := insG_ty
 have u25 := run_underlying Tryz.underlying63
 have z38 : ∀ w, (sizeOf 59).run Tryz.prog w = .ok 7 w := fun w => by simp [sizeOf, typeInfo, hinf, hsz]
 have mixed := tabOk.mix
 have hc63 : c ≤ 9223372036854775807 := hc
 have hsrc : ∀ j v, ((cs.toList.take (n * 7)).drop (i * 7))[j]? = some v → w.cell? ⟨b, i * 7 + j, none⟩ = some v := fun j v hj => by
  rw [List.getElem?_drop, List.getElem?_take] at hj
  rw [cell_at hh]
  split at hj
  ·simpa using hj
  ·cases hj
 have hi5 : (i + 1) * 7 ≤ c * 7 := Nat.mul_le_mul_right _ (by omega)
 have hold : (Builtin.firstCells inf.size i (.slice (some ⟨b, 0, none⟩) i c)).run Tryz.prog w.drew = .ok (cs.toList.take (i * 7)).toArray w.drew := by
  rw [hsz]
  exact run_firstCells_some w.drew 7 i ⟨b, 0, none⟩ i c (cs.toList.take (i * 7)) (by rw [List.length_take, Array.length_toList, hs]; omega) (fun j v hj => by
   rw [addr_add, Nat.zero_add, show w.drew.cell? ⟨b, j, none⟩ = w.cell? ⟨b, j, none⟩ from rfl, cell_at hh]
   rw [List.getElem?_take] at hj
   split at hj
   ·simpa using hj
   ·cases hj)
 have hik : i + (n + 1 - i) = n + 1 := by omega
 have hkk : (n : Int) + 1 - (i : Int) = ((n + 1 - i : Nat) : Int) := by omega
 have hrz : ∀ ty, (Builtin.append_ #[63, 3] ty #[.slice (some ⟨b, 0, none⟩) i c, .int .i64 ((n : Int) + 1 - (i : Int))]).run Tryz.prog w =
   .ok (.slice (some ⟨w.heap.size, 0, none⟩) (n + 1) (grownCap w (n + 1) c 59)) (w.drew.alloc (.cells ((cs.toList.take (i * 7)).toArray ++ Builtin.zeroCells z.cells (n + 1 - i) ++ Builtin.zeroCells z.cells (grownCap w (n + 1) c 59 - (n + 1))) 59)) := fun ty => by
  have h := Lib.run_append_grow_zeros w 63 3 ty 59 inf z .i64 .i64 Tryz.underlying63 Tryz.underlying3 hinf hz (some ⟨b, 0, none⟩) i c (cs.toList.take (i * 7)) hold (n + 1 - i) (by omega) (by omega) (by omega) (by omega) (by rw [hby]; omega) (by rw [hby, hik]; exact growslice_fits hroom hbig)
  rw [hik] at h
  rw [hkk]
  exact h
 obtain ⟨G, hG⟩ : ∃ G, G = grownCap w (n + 1) c 59 := ⟨_, rfl⟩
 have hGn : n + 1 ≤ G := by rw [hG]; exact grownCap_ge w _ _ _
 have hGm : G ≤ maxLen := by rw [hG]; exact grownCap_le_maxLen w (n + 1) c _ (by unfold maxLen; omega)
 have hG63 : G ≤ 9223372036854775807 := hGm
 obtain ⟨ROW, hROW⟩ : ∃ ROW : Array Value, ROW = (cs.toList.take (i * 7)).toArray ++ Builtin.zeroCells z.cells (n + 1 - i) ++ Builtin.zeroCells z.cells (G - (n + 1)) := ⟨_, rfl⟩
 rw [← hG] at hrz
 rw [← hROW] at hrz
 have hRl : ROW.toList.length = G * 7 := by
  rw [hROW, Array.length_toList]
  simp only [Array.size_append, List.size_toArray, size_zeroCells, hzc, List.length_take, Array.length_toList, hs]
  omega
 have hR0 : ∀ o, o < i * 7 → ROW.toList[o]? = cs[o]? := fun o ho => by
  have hl : (cs.toList.take (i * 7)).length = i * 7 := by rw [List.length_take, Array.length_toList, hs]; omega
  rw [hROW]
  simp only [Array.toList_append]
  rw [List.append_assoc, List.getElem?_append_left (by rw [List.toList_toArray, hl]; exact ho), List.toList_toArray, List.getElem?_take, if_pos ho]
  simp
 have htl := tail_len (i := i) hs hnc
 have hbw : b < w.heap.size := by
  rcases Nat.lt_or_ge b w.heap.size with h | h
  ·exact h
  ·rw [Array.getElem?_eq_none h] at hh; cases hh
 have hvw : vb < w.heap.size := by
  rcases Nat.lt_or_ge vb w.heap.size with h | h
  ·exact h
  ·rw [Array.getElem?_eq_none h] at hvh; cases hvh
 obtain ⟨W1, hW1⟩ : ∃ W1, W1 = w.drew.alloc (.cells ROW 59) := ⟨_, rfl⟩
 rw [← hW1] at hrz
 have hN1 : W1.heap[w.heap.size]? = some (.cells ROW 59 (0, 0)) := by rw [hW1]; exact alloc_new' w _
 have hO1 : ∀ x, x < w.heap.size → W1.heap[x]? = w.heap[x]? := fun x hx => by rw [hW1]; exact alloc_old' w _ x hx
 obtain ⟨R2, hR2⟩ : ∃ R2, R2 = (putAt ROW.toList (i * 7) us).toArray := ⟨_, rfl⟩
 have hG5 : (n + 1) * 7 ≤ G * 7 := Nat.mul_le_mul_right _ hGn
 have hR2l : R2.size = G * 7 := by rw [hR2, List.size_toArray, putAt_length _ _ _ (by rw [hu, hRl]; omega), hRl]
 have hcpA : ∀ (W : World), W.heap = W1.heap → ∀ ty dc, (Builtin.copy_ #[63, 63] ty #[.slice (some ⟨w.heap.size, i * 7, none⟩) (n + 1 - i) dc, .slice (some ⟨vb, voff, none⟩) 1 vc]).run Tryz.prog W = .ok (goInt (1 : Nat)) (wrote W w.heap.size (i * 7) ROW us) := fun W hW ty dc =>
  run_copy_big (k := 1) (us := us) (T := 59) Tryz.underlying63 hinf (by simp only [Nat.min_def]; split <;> omega) (by rw [hsz, hu]) (fun j v hj => by
   rw [addr_add, cell_at (cs := vcs) (T := tV) (by rw [hW, hO1 _ hvw]; exact hvh)]
   have := hvs j v hj
   rw [cell_at hvh] at this
   exact this) (by rw [hW]; exact hN1) (by rw [hu, ← Array.length_toList, hRl]; omega) h1
 obtain ⟨W2, hW2⟩ : ∃ W2, W2 = wrote W1 w.heap.size (i * 7) ROW us := ⟨_, rfl⟩
 have hcpB : ∀ (W : World), W.heap = W2.heap → ∀ ty dc sc, (Builtin.copy_ #[63, 63] ty #[.slice (some ⟨w.heap.size, (i + 1) * 7, none⟩) (n - i) dc, .slice (some ⟨b, i * 7, none⟩) (n - i) sc]).run Tryz.prog W = .ok (goInt (n - i : Nat)) (wrote W w.heap.size ((i + 1) * 7) R2 ((cs.toList.take (n * 7)).drop (i * 7))) := fun W hW ty dc sc =>
  run_copy_big (k := n - i) (us := (cs.toList.take (n * 7)).drop (i * 7)) (T := 59) Tryz.underlying63 hinf (by simp only [Nat.min_def]; split <;> omega) (by rw [hsz, htl]) (fun j v hj => by
   rw [addr_add, cell_at (cs := cs) (T := T) (by rw [hW, hW2, wrote_other (by omega), hO1 _ hbw]; exact hh)]
   have := hsrc j v hj
   rw [cell_at hh] at this
   exact this) (by rw [hW, hW2, hR2]; exact wrote_heap hN1) (by rw [htl, hR2l]; omega) (fun u hu => h1c u (List.mem_of_mem_drop hu))
 have hGi : ¬ (G = i) := by omega
 have hGim : ¬ (G = i + 1) := by omega
 have hci : ¬ (c = i) := by omega
 have hw1 : IntKind.i64.wrap ((n : Int) + 1) = ((n + 1 : Nat) : Int) := by rw [IntKind.wrap_i64]; omega
 have hw2 : IntKind.i64.wrap ((i : Int) + 1) = ((i + 1 : Nat) : Int) := by rw [IntKind.wrap_i64]; omega
 have hb1 : (0 : Int) ≤ (i : Int) + 1 := by omega
 have hin : i ≤ n := by omega
 have htn : ((i : Int) + 1).toNat = i + 1 := by omega
 have hb3 : (i : Int) ≤ (n : Int) := by omega
 have hne : ¬ ((i : Int) = (n : Int)) := by omega
 have hend : ∀ W : World, W.heap = (wrote W2 w.heap.size ((i + 1) * 7) R2 ((cs.toList.take (n * 7)).drop (i * 7))).heap → W.os = w.os → W.tape = w.tape → W.output = w.output → InsE w W 7 (.slice (some ⟨b, 0, none⟩) n c) (.slice (some ⟨w.heap.size, 0, none⟩) (n + 1) G) n i 1 b c cs us := fun W hW g1 g2 g3 => by
  refine ⟨_, _, _, 59, InsM.grow (row := ROW.toList) hRl hs hnc hGn hGm hi hu hR0 ?_ rfl ?_ (fun x hx => ?_) g1 g2 g3⟩
  ·rw [hW, wrote_heap (T := 59) (by rw [hW2, hR2]; exact wrote_heap hN1), grownL, hR2]
  ·rw [hW, hW2, hW1]; simp [wrote, World.setRow, World.alloc]
  ·rw [hW, wrote_other (by omega), hW2, wrote_other (by omega)]; exact hO1 x hx
 clear hkk hik hold hROW hG hRl hR0
 go_enter Tryz.func195, Tryz.ntmps195
 go_wp2_with (first
  | (at_builtin; refine Lib.wpList_append_run _ rfl _ _ _ _ rfl _ _ rfl rfl _ _ (hrz _) ?_)
  | (at_builtin; refine wpList_copy_runI _ rfl _ _ 63 63 rfl _ _ rfl rfl (hcpA _ rfl _ _) ?_))
 go_region_law_o (refine step_copy_runI rfl _ _ 63 63 rfl (.slice (some ⟨w.heap.size, (i + 1) * 7, none⟩) (n - i) (G - (i + 1))) (.slice (some ⟨b, i * 7, none⟩) (n - i) (c - i)) (by simp [Act.eval, Act.put]) (by simp [Act.eval, Act.put]) (hcpB _ (by rw [hW2, hW1]; rfl) _ _ _) ?_)
 go_wp2
 go_ret
 exact ⟨.slice (some ⟨w.heap.size, 0, none⟩) (n + 1) G, rfl, hend _ (by rw [hW2, hW1, hR2]; rfl) rfl rfl rfl⟩
theorem insG_end (w : World) (b n c vb voff vc T : Nat) (cs : Array Value) (us : List Value) (hn : n ≤ c) (hc : c ≤ maxLen) (hh : w.heap[b]? = some (.cells cs T (0, 0))) (hs : cs.size = c * 7) (hu : us.length = 7)
  (hvs : ∀ j v, us[j]? = some v → w.cell? ⟨vb, voff + j, none⟩ = some v) (h1 : ∀ u ∈ us, one u) (hb : (n + 1) * 56 ≤ 140737488355328) :
  Calls Tryz.prog 195 #[.slice (some ⟨b, 0, none⟩) n c, .int .i64 n, .slice (some ⟨vb, voff, none⟩) 1 vc] w fun e w' =>
   ∃ v, e = .returned v ∧ InsE w w' 7 (.slice (some ⟨b, 0, none⟩) n c) v n n 1 b c cs us := by
 obtain ⟨inf, z, hinf, hsz, hby, hz, hzc⟩ := insG_ty
 have u25 := run_underlying Tryz.underlying63
 have z38 : ∀ w, (sizeOf 59).run Tryz.prog w = .ok 7 w := fun w => by simp [sizeOf, typeInfo, hinf, hsz]
 have hc63 : c ≤ 9223372036854775807 := hc
 have mixed := tabOk.mix
 rcases run_append_all (P := Tryz.prog) (ty := 63) (w := w) Tryz.underlying63 hinf hz hsz hby hzc (Old.row n b c cs T hh hn hc hs) (m := 1) (us := us) ⟨by rw [hu], .inr (.inr ⟨vb, voff, vc, rfl, hvs⟩)⟩ h1 (by omega) (by simpa using hb) with ⟨_, h, _⟩ | ⟨v, w', b', cap', cs', T', hr, A⟩
 ·cases h
 ·have hend : InsE w w' 7 _ v _ _ 1 b _ cs us := ⟨_, _, _, _, A.ins⟩
  by_cases hcn : n = c
  ·subst hcn
   go_enter Tryz.func195, Tryz.ntmps195
   go_wp2_with (at_builtin; refine Lib.wpList_append_run _ rfl _ _ _ _ rfl _ _ rfl rfl _ _ hr ?_)
   go_ret
   exact ⟨v, rfl, hend⟩
  ·have hcn2 : ¬ (c = n) := fun h => hcn h.symm
   go_enter Tryz.func195, Tryz.ntmps195
   go_wp2_with (at_builtin; refine Lib.wpList_append_run _ rfl _ _ _ _ rfl _ _ rfl rfl _ _ hr ?_)
   go_ret
   exact ⟨v, rfl, hend⟩
theorem insG_nil (w : World) (b vb voff vc T : Nat) (cs : Array Value) (us : List Value) (hcs : cs = #[]) (hu : us.length = 7)
  (hvs : ∀ j v, us[j]? = some v → w.cell? ⟨vb, voff + j, none⟩ = some v) (h1 : ∀ u ∈ us, one u) :
  Calls Tryz.prog 195 #[.slice none 0 0, .int .i64 0, .slice (some ⟨vb, voff, none⟩) 1 vc] w fun e w' =>
   ∃ v, e = .returned v ∧ InsE w w' 7 (.slice none 0 0) v 0 0 1 b 0 cs us := by
 obtain ⟨inf, z, hinf, hsz, hby, hz, hzc⟩ := insG_ty
 have u25 := run_underlying Tryz.underlying63
 have z38 : ∀ w, (sizeOf 59).run Tryz.prog w = .ok 7 w := fun w => by simp [sizeOf, typeInfo, hinf, hsz]
 have mixed := tabOk.mix
 rcases run_append_all (P := Tryz.prog) (ty := 63) (w := w) Tryz.underlying63 hinf hz hsz hby hzc (Old.nil b 0 cs T hcs rfl) (m := 1) (us := us) ⟨by rw [hu], .inr (.inr ⟨vb, voff, vc, rfl, hvs⟩)⟩ h1 (by omega) (by omega) with ⟨_, _, _, h⟩ | ⟨v, w', b', cap', cs', T', hr, A⟩
 ·cases h
 ·go_enter Tryz.func195, Tryz.ntmps195
  have hend : InsE w w' 7 _ v _ _ 1 b _ cs us := ⟨_, _, _, _, A.ins⟩
  go_wp2_with (at_builtin; refine Lib.wpList_append_run _ rfl _ _ _ _ rfl _ _ rfl rfl _ _ hr ?_)
  all_goals go_ret
  all_goals first | exact ⟨v, rfl, hend⟩ | (have hcn : c = n := by (first | assumption | (symm; assumption) | omega); subst hcn; exact ⟨v, rfl, hend⟩)
theorem insGFn : InsFn Tryz.prog 195 .gst := by
 intro w s n b cap cs T i vb vcap vT vcs us hO hi hvb hvh hu hvs h1 h1c hL
 have hs5 : RT.size .gst = 7 := rfl
 have hb5 : RT.bytes .gst = 56 := rfl
 rw [hs5] at *
 rw [hb5] at hL
 cases hO with
 | nil _ _ _ _ hcs hcap =>
  have : i = 0 := by omega
  subst this
  subst hcap
  exact insG_nil w b vb 0 vcap T cs us hcs hu hvs h1
 | row _ _ _ _ _ hh hnc hcm hcs =>
  rcases Nat.lt_or_ge i n with hlt | hge
  ·rcases Nat.lt_or_ge cap (n + 1) with hr | hr
   ·exact insG_grow w b n cap i vb 0 vcap T vT cs vcs us hlt hnc hr hcm hh hcs hu hvh hvs h1 h1c hL
   ·exact insG_room w b n cap i vb 0 vcap T vT cs vcs us hlt hr hcm hh hcs hu hvh (hvb ⟨_, rfl⟩) hvs h1 h1c
  ·have : i = n := by omega
   subst this
   exact insG_end w b i cap vb 0 vcap T cs us hnc hcm hh hcs hu hvs h1 hL
theorem okInsertG : SpecOk1 Tryz.prog 195 (.raw (insM .gst)) :=
 ins_ok ⟨_, _, Tryz.func195, by kernel_rfl, rfl⟩ insGFn
end Go.Proofs.YtjdaiobeiimpfaaGreat
namespace Go.Proofs.YtjdaiobeiimpfaaGreat
open Go.Sx Go.Proofs Go.Mo
noncomputable def sRecord : Sx.Spec := ⟨false, true, [.list .gst, .row .gst], [[some .gst]], fun _ _ ⟨l, g, _⟩ => .ret (vW .gst fun _ => gstRec (l ()) (g ()), fun _ => 0)⟩
theorem okRecord : SpecOk1 Tryz.prog 158 sRecord := spec1 tabOk (ss := [(106, sCloneG), (138, sGstLess), (195, (.raw (insM .gst)))]) ⟨okCloneG, okAhead, okInsertG, trivial⟩ rfl rfl <| by
 intro (bs : Th (List Int)) (p : Th Int) ⟨(l : Th (List Gst)), (g : Th Gst), u⟩ K _ _ ho h
 obtain ⟨l, rfl⟩ := th_ex l; obtain ⟨g, rfl⟩ := th_ex g
 have hl := okB (ho.1 _ (.head _))
 have hp := fun (k : Nat) => @gst_pos l g k
 refine ⟨annL [(158, 3, ⟨Nat, [], fun σ k => σ.t 6 (vI fun _ => (k : Int)), fun _ k _ => k ≤ l.length ∧ allTo k (lessAt l g) = true, fun _ k _ => l.length - k⟩)], noAnn, 20, ?_⟩
 cbv
 repeat' first | ((with_reducible refine fun (k : Nat) => ?_); cbv) | ((with_reducible intro _); cbv) | (with_reducible refine And.intro ?_ ?_)
 all_goals try ((first | (with_reducible refine LoopIn.mk ((0 : Nat)) ?_ ?_) | (with_reducible refine LoopBack.mk ((k + 1 : Nat)) ?_ ?_ ?_)) )
 all_goals try ((with_reducible show matchSt _ _); cbv; (try simp only [and_true, true_and]))
 all_goals try (repeat' with_reducible refine And.intro ?_ ?_)
 all_goals first | (refine retK h ?_; clear h; simp only [fin0]) | (with_reducible refine Ob.mk ?_; clear h) | (clear h)
 all_goals (try simp only [eta0, RT.bytes] at *)
 all_goals (try (refine funext fun u => ?_; rw [setNth_app]))
 all_goals (try simp only [Int.toNat_natCast] at *)
 all_goals grind (splits := 30) [wrap_succ, wrap_id, gstRec, lessAt, allTo_zero, allTo_succ]
end Go.Proofs.YtjdaiobeiimpfaaGreat
namespace Go.Proofs.YtjdaiobeiimpfaaGreat
open Go.Sx Go.Proofs Go.RowKit
theorem insH_info : (Tryz.prog.info? 98).map (fun i => (i.zero, i.size, i.bytes)) = some (some (.agg #[.int .i64 0, .int .i64 0, .int .i64 0, .slice none 0 0, .int .i64 0, .slice none 0 0, .slice none 0 0, .slice none 0 0]), 8, 128) := by kernel_rfl
theorem insH_ty : ∃ inf z, Tryz.prog.info? 98 = some inf ∧ inf.size = 8 ∧ inf.bytes = 128 ∧ inf.zero = some z ∧ z.cells.size = 8 := by
 obtain ⟨i0, h1, h2, h3, h4⟩ := info_parts insH_info
 exact ⟨i0, _, h1, h3, h4, h2, rfl⟩
theorem insH_room (w : World) (b n c i vb voff vc T tV : Nat) (cs vcs : Array Value) (us : List Value) (hi : i < n) (hroom : n + 1 ≤ c) (hc : c ≤ maxLen) (hh : w.heap[b]? = some (.cells cs T (0, 0))) (hs : cs.size = c * 8) (hu : us.length = 8)
  (hvh : w.heap[vb]? = some (.cells vcs tV (0, 0))) (hvb : vb ≠ b) (hvs : ∀ j v, us[j]? = some v → w.cell? ⟨vb, voff + j, none⟩ = some v) (h1 : ∀ u ∈ us, one u) (h1c : ∀ u ∈ cs.toList.take (n * 8), one u) :
  Calls Tryz.prog 194 #[.slice (some ⟨b, 0, none⟩) n c, .int .i64 i, .slice (some ⟨vb, voff, none⟩) 1 vc] w fun e w' =>
   ∃ v, e = .returned v ∧ InsE w w' 8 (.slice (some ⟨b, 0, none⟩) n c) v n i 1 b c cs us := by
 obtain ⟨inf, z, hinf, hsz, hby, hz, hzc⟩ := insH_ty
 have u25 := run_underlying Tryz.underlying62
 have z38 : ∀ w, (sizeOf 98).run Tryz.prog w = .ok 8 w := fun w => by simp [sizeOf, typeInfo, hinf, hsz]
 have hc63 : c ≤ 9223372036854775807 := hc
 have hcb : n + 1 ≤ 9223372036854775807 := by omega
 have hkB : cs.size ≠ 0 := by rw [hs]; omega
 have hov : ∀ lb cb, (callFunc 221 #[.slice (some ⟨vb, voff, none⟩) 1 vc, .slice (some ⟨b, (i + 1) * 8, none⟩) lb cb]).run Tryz.prog w = .ok (.value (.bool false)) w := fun lb cb => by
  rw [run_callFunc_extern Tryz.func221 (by kernel_rfl) (by kernel_rfl) (by kernel_rfl) (e := Extern.SlicesOverlaps.overlaps #[62, 62] #[4]) (by kernel_rfl),
   Lib.run_overlaps_apart w 62 4 98 Tryz.underlying62 8 z38 ⟨vb, voff, none⟩ ⟨b, (i + 1) * 8, none⟩ 1 vc lb cb hvb tV T vcs.size cs.size (by simp [World.shape?, hvh]) (by simp [World.shape?, hh]) hkB (frozen_of_row _ _ _ _ _ hvh) (frozen_of_row _ _ _ _ _ hvh)]
  rfl
 have hw1 : IntKind.i64.wrap ((n : Int) + 1) = ((n + 1 : Nat) : Int) := by rw [IntKind.wrap_i64]; omega
 have hw2 : IntKind.i64.wrap ((i : Int) + 1) = ((i + 1 : Nat) : Int) := by rw [IntKind.wrap_i64]; omega
 have hne : ¬ ((i : Int) = (n : Int)) := by omega
 have mixed := tabOk.mix
 have hb1 : (0 : Int) ≤ (i : Int) + 1 := by omega
 have hin : i ≤ n := by omega
 have hb2 : ¬ (c = i + 1) := by omega
 have hb3 : (i : Int) ≤ (n : Int) + 1 := by omega
 have hb4 : ¬ (c = i) := by omega
 have htn : ((i : Int) + 1).toNat = i + 1 := by omega
 go_enter Tryz.func194, Tryz.ntmps194
 go_wp2_with (simp only [hov])
 clear hov
 have htl := tail_len (i := i) hs (show n ≤ c by omega)
 have hn5 : (n + 1) * 8 ≤ c * 8 := Nat.mul_le_mul_right _ hroom
 have hsrc : ∀ j v, ((cs.toList.take (n * 8)).drop (i * 8))[j]? = some v → w.cell? ⟨b, i * 8 + j, none⟩ = some v := fun j v hj => by
  rw [List.getElem?_drop, List.getElem?_take] at hj
  rw [cell_at hh]
  split at hj
  ·simpa using hj
  ·cases hj
 have hcp1 : ∀ ty dc sc, (Builtin.copy_ #[62, 62] ty #[.slice (some ⟨b, (i + 1) * 8, none⟩) (n - i) dc, .slice (some ⟨b, i * 8, none⟩) (n + 1 - i) sc]).run Tryz.prog w.drew = .ok (goInt (n - i : Nat)) (wrote w.drew b ((i + 1) * 8) cs ((cs.toList.take (n * 8)).drop (i * 8))) := fun ty dc sc =>
  run_copy_big (k := n - i) (us := (cs.toList.take (n * 8)).drop (i * 8)) Tryz.underlying62 hinf (by simp only [Nat.min_def]; split <;> omega) (by rw [hsz]; exact htl) (fun j v hj => by
   rw [addr_add]
   exact hsrc j v hj) hh (by rw [htl, hs]; omega) (fun u hu => h1c u (List.mem_of_mem_drop hu))
 go_region_law_o (refine step_copy_runI rfl _ _ 62 62 rfl _ _ (by simp [Act.eval, Act.put]) (by simp [Act.eval, Act.put]) (hcp1 _ _ _) ?_)
 have htl2 : ((cs.toList.take (n * 8)).drop (i * 8)).length = (n - i) * 8 := htl
 obtain ⟨cs1, hcs1⟩ : ∃ cs1, cs1 = (putAt cs.toList ((i + 1) * 8) ((cs.toList.take (n * 8)).drop (i * 8))).toArray := ⟨_, rfl⟩
 obtain ⟨W1, hW1⟩ : ∃ W1, W1 = wrote w.drew b ((i + 1) * 8) cs ((cs.toList.take (n * 8)).drop (i * 8)) := ⟨_, rfl⟩
 have hh1 : W1.heap[b]? = some (.cells cs1 T (0, 0)) := by rw [hW1, hcs1]; exact wrote_heap hh
 have hv1 : W1.heap[vb]? = some (.cells vcs tV (0, 0)) := by rw [hW1, wrote_other hvb]; exact hvh
 have hsz1 : cs1.size = c * 8 := by rw [hcs1, List.size_toArray, putAt_length _ _ _ (by rw [htl2, Array.length_toList, hs]; omega), Array.length_toList, hs]
 have hcp2 : ∀ (W : World), W.heap = W1.heap → ∀ ty dc, (Builtin.copy_ #[62, 62] ty #[.slice (some ⟨b, i * 8, none⟩) (n + 1 - i) dc, .slice (some ⟨vb, voff, none⟩) 1 vc]).run Tryz.prog W = .ok (goInt (1 : Nat)) (wrote W b (i * 8) cs1 us) := fun W hW ty dc =>
  run_copy_big (k := 1) (us := us) (T := T) Tryz.underlying62 hinf (by simp only [Nat.min_def]; split <;> omega) (by rw [hsz, hu]) (fun j v hj => by
   rw [addr_add, cell_at (cs := vcs) (T := tV) (by rw [hW]; exact hv1)]
   have := hvs j v hj
   rw [cell_at hvh] at this
   exact this) (by rw [hW]; exact hh1) (by rw [hu, hsz1]; omega) h1
 rw [← hW1]
 go_wp2_with (at_builtin; refine wpList_copy_runI _ rfl _ _ 62 62 rfl _ _ rfl rfl (hcp2 _ rfl _ _) ?_)
 have hend : InsM w (wrote W1 b (i * 8) cs1 us) 8 (.slice (some ⟨b, 0, none⟩) n c) (.slice (some ⟨b, 0, none⟩) (n + 1) c) n i 1 b c cs us b c (shifted cs 8 n i us).toArray T := by
  refine InsM.room hh hs hroom hc hi hu ?_ (fun x hx => ?_) ?_ ?_ ?_ ?_
  ·rw [wrote_heap hh1, shifted, hcs1]
  ·rw [wrote_other hx, hW1, wrote_other hx]; rfl
  ·rw [hW1]; rfl
  ·rw [hW1]; rfl
  ·rw [hW1]; rfl
  ·rw [hW1]; simp [wrote, World.setRow]
 subst hcs1
 subst hW1
 go_ret
 exact ⟨.slice (some ⟨b, 0, none⟩) (n + 1) c, rfl, _, _, _, _, hend⟩
theorem insH_grow (w : World) (b n c i vb voff vc T tV : Nat) (cs vcs : Array Value) (us : List Value) (hi : i < n) (hnc : n ≤ c) (hroom : c < n + 1) (hc : c ≤ maxLen) (hh : w.heap[b]? = some (.cells cs T (0, 0))) (hs : cs.size = c * 8) (hu : us.length = 8)
  (hvh : w.heap[vb]? = some (.cells vcs tV (0, 0))) (hvs : ∀ j v, us[j]? = some v → w.cell? ⟨vb, voff + j, none⟩ = some v) (h1 : ∀ u ∈ us, one u) (h1c : ∀ u ∈ cs.toList.take (n * 8), one u) (hbig : (n + 1) * 128 ≤ 140737488355328) :
  Calls Tryz.prog 194 #[.slice (some ⟨b, 0, none⟩) n c, .int .i64 i, .slice (some ⟨vb, voff, none⟩) 1 vc] w fun e w' =>
   ∃ v, e = .returned v ∧ InsE w w' 8 (.slice (some ⟨b, 0, none⟩) n c) v n i 1 b c cs us := by
 obtain ⟨inf, z, hinf, hsz, hby, hz, hzc⟩ := insH_ty
 have u25 := run_underlying Tryz.underlying62
 have z38 : ∀ w, (sizeOf 98).run Tryz.prog w = .ok 8 w := fun w => by simp [sizeOf, typeInfo, hinf, hsz]
 have mixed := tabOk.mix
 have hc63 : c ≤ 9223372036854775807 := hc
 have hsrc : ∀ j v, ((cs.toList.take (n * 8)).drop (i * 8))[j]? = some v → w.cell? ⟨b, i * 8 + j, none⟩ = some v := fun j v hj => by
  rw [List.getElem?_drop, List.getElem?_take] at hj
  rw [cell_at hh]
  split at hj
  ·simpa using hj
  ·cases hj
 have hi5 : (i + 1) * 8 ≤ c * 8 := Nat.mul_le_mul_right _ (by omega)
 have hold : (Builtin.firstCells inf.size i (.slice (some ⟨b, 0, none⟩) i c)).run Tryz.prog w.drew = .ok (cs.toList.take (i * 8)).toArray w.drew := by
  rw [hsz]
  exact run_firstCells_some w.drew 8 i ⟨b, 0, none⟩ i c (cs.toList.take (i * 8)) (by rw [List.length_take, Array.length_toList, hs]; omega) (fun j v hj => by
   rw [addr_add, Nat.zero_add, show w.drew.cell? ⟨b, j, none⟩ = w.cell? ⟨b, j, none⟩ from rfl, cell_at hh]
   rw [List.getElem?_take] at hj
   split at hj
   ·simpa using hj
   ·cases hj)
 have hik : i + (n + 1 - i) = n + 1 := by omega
 have hkk : (n : Int) + 1 - (i : Int) = ((n + 1 - i : Nat) : Int) := by omega
 have hrz : ∀ ty, (Builtin.append_ #[62, 3] ty #[.slice (some ⟨b, 0, none⟩) i c, .int .i64 ((n : Int) + 1 - (i : Int))]).run Tryz.prog w =
   .ok (.slice (some ⟨w.heap.size, 0, none⟩) (n + 1) (grownCap w (n + 1) c 98)) (w.drew.alloc (.cells ((cs.toList.take (i * 8)).toArray ++ Builtin.zeroCells z.cells (n + 1 - i) ++ Builtin.zeroCells z.cells (grownCap w (n + 1) c 98 - (n + 1))) 98)) := fun ty => by
  have h := Lib.run_append_grow_zeros w 62 3 ty 98 inf z .i64 .i64 Tryz.underlying62 Tryz.underlying3 hinf hz (some ⟨b, 0, none⟩) i c (cs.toList.take (i * 8)) hold (n + 1 - i) (by omega) (by omega) (by omega) (by omega) (by rw [hby]; omega) (by rw [hby, hik]; exact growslice_fits hroom hbig)
  rw [hik] at h
  rw [hkk]
  exact h
 obtain ⟨G, hG⟩ : ∃ G, G = grownCap w (n + 1) c 98 := ⟨_, rfl⟩
 have hGn : n + 1 ≤ G := by rw [hG]; exact grownCap_ge w _ _ _
 have hGm : G ≤ maxLen := by rw [hG]; exact grownCap_le_maxLen w (n + 1) c _ (by unfold maxLen; omega)
 have hG63 : G ≤ 9223372036854775807 := hGm
 obtain ⟨ROW, hROW⟩ : ∃ ROW : Array Value, ROW = (cs.toList.take (i * 8)).toArray ++ Builtin.zeroCells z.cells (n + 1 - i) ++ Builtin.zeroCells z.cells (G - (n + 1)) := ⟨_, rfl⟩
 rw [← hG] at hrz
 rw [← hROW] at hrz
 have hRl : ROW.toList.length = G * 8 := by
  rw [hROW, Array.length_toList]
  simp only [Array.size_append, List.size_toArray, size_zeroCells, hzc, List.length_take, Array.length_toList, hs]
  omega
 have hR0 : ∀ o, o < i * 8 → ROW.toList[o]? = cs[o]? := fun o ho => by
  have hl : (cs.toList.take (i * 8)).length = i * 8 := by rw [List.length_take, Array.length_toList, hs]; omega
  rw [hROW]
  simp only [Array.toList_append]
  rw [List.append_assoc, List.getElem?_append_left (by rw [List.toList_toArray, hl]; exact ho), List.toList_toArray, List.getElem?_take, if_pos ho]
  simp
 have htl := tail_len (i := i) hs hnc
 have hbw : b < w.heap.size := by
  rcases Nat.lt_or_ge b w.heap.size with h | h
  ·exact h
  ·rw [Array.getElem?_eq_none h] at hh; cases hh
 have hvw : vb < w.heap.size := by
  rcases Nat.lt_or_ge vb w.heap.size with h | h
  ·exact h
  ·rw [Array.getElem?_eq_none h] at hvh; cases hvh
 obtain ⟨W1, hW1⟩ : ∃ W1, W1 = w.drew.alloc (.cells ROW 98) := ⟨_, rfl⟩
 rw [← hW1] at hrz
 have hN1 : W1.heap[w.heap.size]? = some (.cells ROW 98 (0, 0)) := by rw [hW1]; exact alloc_new' w _
 have hO1 : ∀ x, x < w.heap.size → W1.heap[x]? = w.heap[x]? := fun x hx => by rw [hW1]; exact alloc_old' w _ x hx
 obtain ⟨R2, hR2⟩ : ∃ R2, R2 = (putAt ROW.toList (i * 8) us).toArray := ⟨_, rfl⟩
 have hG5 : (n + 1) * 8 ≤ G * 8 := Nat.mul_le_mul_right _ hGn
 have hR2l : R2.size = G * 8 := by rw [hR2, List.size_toArray, putAt_length _ _ _ (by rw [hu, hRl]; omega), hRl]
 have hcpA : ∀ (W : World), W.heap = W1.heap → ∀ ty dc, (Builtin.copy_ #[62, 62] ty #[.slice (some ⟨w.heap.size, i * 8, none⟩) (n + 1 - i) dc, .slice (some ⟨vb, voff, none⟩) 1 vc]).run Tryz.prog W = .ok (goInt (1 : Nat)) (wrote W w.heap.size (i * 8) ROW us) := fun W hW ty dc =>
  run_copy_big (k := 1) (us := us) (T := 98) Tryz.underlying62 hinf (by simp only [Nat.min_def]; split <;> omega) (by rw [hsz, hu]) (fun j v hj => by
   rw [addr_add, cell_at (cs := vcs) (T := tV) (by rw [hW, hO1 _ hvw]; exact hvh)]
   have := hvs j v hj
   rw [cell_at hvh] at this
   exact this) (by rw [hW]; exact hN1) (by rw [hu, ← Array.length_toList, hRl]; omega) h1
 obtain ⟨W2, hW2⟩ : ∃ W2, W2 = wrote W1 w.heap.size (i * 8) ROW us := ⟨_, rfl⟩
 have hcpB : ∀ (W : World), W.heap = W2.heap → ∀ ty dc sc, (Builtin.copy_ #[62, 62] ty #[.slice (some ⟨w.heap.size, (i + 1) * 8, none⟩) (n - i) dc, .slice (some ⟨b, i * 8, none⟩) (n - i) sc]).run Tryz.prog W = .ok (goInt (n - i : Nat)) (wrote W w.heap.size ((i + 1) * 8) R2 ((cs.toList.take (n * 8)).drop (i * 8))) := fun W hW ty dc sc =>
  run_copy_big (k := n - i) (us := (cs.toList.take (n * 8)).drop (i * 8)) (T := 98) Tryz.underlying62 hinf (by simp only [Nat.min_def]; split <;> omega) (by rw [hsz, htl]) (fun j v hj => by
   rw [addr_add, cell_at (cs := cs) (T := T) (by rw [hW, hW2, wrote_other (by omega), hO1 _ hbw]; exact hh)]
   have := hsrc j v hj
   rw [cell_at hh] at this
   exact this) (by rw [hW, hW2, hR2]; exact wrote_heap hN1) (by rw [htl, hR2l]; omega) (fun u hu => h1c u (List.mem_of_mem_drop hu))
 have hGi : ¬ (G = i) := by omega
 have hGim : ¬ (G = i + 1) := by omega
 have hci : ¬ (c = i) := by omega
 have hw1 : IntKind.i64.wrap ((n : Int) + 1) = ((n + 1 : Nat) : Int) := by rw [IntKind.wrap_i64]; omega
 have hw2 : IntKind.i64.wrap ((i : Int) + 1) = ((i + 1 : Nat) : Int) := by rw [IntKind.wrap_i64]; omega
 have hb1 : (0 : Int) ≤ (i : Int) + 1 := by omega
 have hin : i ≤ n := by omega
 have htn : ((i : Int) + 1).toNat = i + 1 := by omega
 have hb3 : (i : Int) ≤ (n : Int) := by omega
 have hne : ¬ ((i : Int) = (n : Int)) := by omega
 have hend : ∀ W : World, W.heap = (wrote W2 w.heap.size ((i + 1) * 8) R2 ((cs.toList.take (n * 8)).drop (i * 8))).heap → W.os = w.os → W.tape = w.tape → W.output = w.output → InsE w W 8 (.slice (some ⟨b, 0, none⟩) n c) (.slice (some ⟨w.heap.size, 0, none⟩) (n + 1) G) n i 1 b c cs us := fun W hW g1 g2 g3 => by
  refine ⟨_, _, _, 98, InsM.grow (row := ROW.toList) hRl hs hnc hGn hGm hi hu hR0 ?_ rfl ?_ (fun x hx => ?_) g1 g2 g3⟩
  ·rw [hW, wrote_heap (T := 98) (by rw [hW2, hR2]; exact wrote_heap hN1), grownL, hR2]
  ·rw [hW, hW2, hW1]; simp [wrote, World.setRow, World.alloc]
  ·rw [hW, wrote_other (by omega), hW2, wrote_other (by omega)]; exact hO1 x hx
 clear hkk hik hold hROW hG hRl hR0
 go_enter Tryz.func194, Tryz.ntmps194
 go_wp2_with (first
  | (at_builtin; refine Lib.wpList_append_run _ rfl _ _ _ _ rfl _ _ rfl rfl _ _ (hrz _) ?_)
  | (at_builtin; refine wpList_copy_runI _ rfl _ _ 62 62 rfl _ _ rfl rfl (hcpA _ rfl _ _) ?_))
 go_region_law_o (refine step_copy_runI rfl _ _ 62 62 rfl (.slice (some ⟨w.heap.size, (i + 1) * 8, none⟩) (n - i) (G - (i + 1))) (.slice (some ⟨b, i * 8, none⟩) (n - i) (c - i)) (by simp [Act.eval, Act.put]) (by simp [Act.eval, Act.put]) (hcpB _ (by rw [hW2, hW1]; rfl) _ _ _) ?_)
 go_wp2
 go_ret
 exact ⟨.slice (some ⟨w.heap.size, 0, none⟩) (n + 1) G, rfl, hend _ (by rw [hW2, hW1, hR2]; rfl) rfl rfl rfl⟩
theorem insH_end (w : World) (b n c vb voff vc T : Nat) (cs : Array Value) (us : List Value) (hn : n ≤ c) (hc : c ≤ maxLen) (hh : w.heap[b]? = some (.cells cs T (0, 0))) (hs : cs.size = c * 8) (hu : us.length = 8)
  (hvs : ∀ j v, us[j]? = some v → w.cell? ⟨vb, voff + j, none⟩ = some v) (h1 : ∀ u ∈ us, one u) (hb : (n + 1) * 128 ≤ 140737488355328) :
  Calls Tryz.prog 194 #[.slice (some ⟨b, 0, none⟩) n c, .int .i64 n, .slice (some ⟨vb, voff, none⟩) 1 vc] w fun e w' =>
   ∃ v, e = .returned v ∧ InsE w w' 8 (.slice (some ⟨b, 0, none⟩) n c) v n n 1 b c cs us := by
 obtain ⟨inf, z, hinf, hsz, hby, hz, hzc⟩ := insH_ty
 have u25 := run_underlying Tryz.underlying62
 have z38 : ∀ w, (sizeOf 98).run Tryz.prog w = .ok 8 w := fun w => by simp [sizeOf, typeInfo, hinf, hsz]
 have hc63 : c ≤ 9223372036854775807 := hc
 have mixed := tabOk.mix
 rcases run_append_all (P := Tryz.prog) (ty := 62) (w := w) Tryz.underlying62 hinf hz hsz hby hzc (Old.row n b c cs T hh hn hc hs) (m := 1) (us := us) ⟨by rw [hu], .inr (.inr ⟨vb, voff, vc, rfl, hvs⟩)⟩ h1 (by omega) (by simpa using hb) with ⟨_, h, _⟩ | ⟨v, w', b', cap', cs', T', hr, A⟩
 ·cases h
 ·have hend : InsE w w' 8 _ v _ _ 1 b _ cs us := ⟨_, _, _, _, A.ins⟩
  by_cases hcn : n = c
  ·subst hcn
   go_enter Tryz.func194, Tryz.ntmps194
   go_wp2_with (at_builtin; refine Lib.wpList_append_run _ rfl _ _ _ _ rfl _ _ rfl rfl _ _ hr ?_)
   go_ret
   exact ⟨v, rfl, hend⟩
  ·have hcn2 : ¬ (c = n) := fun h => hcn h.symm
   go_enter Tryz.func194, Tryz.ntmps194
   go_wp2_with (at_builtin; refine Lib.wpList_append_run _ rfl _ _ _ _ rfl _ _ rfl rfl _ _ hr ?_)
   go_ret
   exact ⟨v, rfl, hend⟩
theorem insH_nil (w : World) (b vb voff vc T : Nat) (cs : Array Value) (us : List Value) (hcs : cs = #[]) (hu : us.length = 8)
  (hvs : ∀ j v, us[j]? = some v → w.cell? ⟨vb, voff + j, none⟩ = some v) (h1 : ∀ u ∈ us, one u) :
  Calls Tryz.prog 194 #[.slice none 0 0, .int .i64 0, .slice (some ⟨vb, voff, none⟩) 1 vc] w fun e w' =>
   ∃ v, e = .returned v ∧ InsE w w' 8 (.slice none 0 0) v 0 0 1 b 0 cs us := by
 obtain ⟨inf, z, hinf, hsz, hby, hz, hzc⟩ := insH_ty
 have u25 := run_underlying Tryz.underlying62
 have z38 : ∀ w, (sizeOf 98).run Tryz.prog w = .ok 8 w := fun w => by simp [sizeOf, typeInfo, hinf, hsz]
 have mixed := tabOk.mix
 rcases run_append_all (P := Tryz.prog) (ty := 62) (w := w) Tryz.underlying62 hinf hz hsz hby hzc (Old.nil b 0 cs T hcs rfl) (m := 1) (us := us) ⟨by rw [hu], .inr (.inr ⟨vb, voff, vc, rfl, hvs⟩)⟩ h1 (by omega) (by omega) with ⟨_, _, _, h⟩ | ⟨v, w', b', cap', cs', T', hr, A⟩
 ·cases h
 ·go_enter Tryz.func194, Tryz.ntmps194
  have hend : InsE w w' 8 _ v _ _ 1 b _ cs us := ⟨_, _, _, _, A.ins⟩
  go_wp2_with (at_builtin; refine Lib.wpList_append_run _ rfl _ _ _ _ rfl _ _ rfl rfl _ _ hr ?_)
  all_goals go_ret
  all_goals first | exact ⟨v, rfl, hend⟩ | (have hcn : c = n := by (first | assumption | (symm; assumption) | omega); subst hcn; exact ⟨v, rfl, hend⟩)
theorem insHFn : InsFn Tryz.prog 194 .hld := by
 intro w s n b cap cs T i vb vcap vT vcs us hO hi hvb hvh hu hvs h1 h1c hL
 have hs5 : RT.size .hld = 8 := rfl
 have hb5 : RT.bytes .hld = 128 := rfl
 rw [hs5] at *
 rw [hb5] at hL
 cases hO with
 | nil _ _ _ _ hcs hcap =>
  have : i = 0 := by omega
  subst this
  subst hcap
  exact insH_nil w b vb 0 vcap T cs us hcs hu hvs h1
 | row _ _ _ _ _ hh hnc hcm hcs =>
  rcases Nat.lt_or_ge i n with hlt | hge
  ·rcases Nat.lt_or_ge cap (n + 1) with hr | hr
   ·exact insH_grow w b n cap i vb 0 vcap T vT cs vcs us hlt hnc hr hcm hh hcs hu hvh hvs h1 h1c hL
   ·exact insH_room w b n cap i vb 0 vcap T vT cs vcs us hlt hr hcm hh hcs hu hvh (hvb ⟨_, rfl⟩) hvs h1 h1c
  ·have : i = n := by omega
   subst this
   exact insH_end w b i cap vb 0 vcap T cs us hnc hcm hh hcs hu hvs h1 hL
theorem okInsertH : SpecOk1 Tryz.prog 194 (.raw (insM .hld)) :=
 ins_ok ⟨_, _, Tryz.func194, by kernel_rfl, rfl⟩ insHFn
theorem delH_info : (Tryz.prog.info? 98).map (fun i => (i.zero, i.size, i.bytes)) = some (some (.agg #[.int .i64 0, .int .i64 0, .int .i64 0, .slice none 0 0, .int .i64 0, .slice none 0 0, .slice none 0 0, .slice none 0 0]), 8, 128) := by kernel_rfl
theorem delH_run (w : World) (n b c : Nat) (cs : Array Value) (T i : Nat) (hh : w.heap[b]? = some (.cells cs T (0, 0))) (hnc : n ≤ c) (hc : c ≤ maxLen) (hs : cs.size = c * 8) (hi : i < n) (h1c : ∀ u ∈ cs.toList.take (n * 8), one u) :
  Calls Tryz.prog 198 #[.slice (some ⟨b, 0, none⟩) n c, .int .i64 i, .int .i64 ((i : Int) + 1)] w fun e w' => ∃ v cs', e = .returned v ∧ DelE w w' 8 v n i b c cs T cs' := by
 obtain ⟨inf, hinf, hz, hsz, hby⟩ := info_parts delH_info
 obtain ⟨Z, hZ⟩ : ∃ Z : Value, Z = .agg #[.int .i64 0, .int .i64 0, .int .i64 0, .slice none 0 0, .int .i64 0, .slice none 0 0, .slice none 0 0, .slice none 0 0] := ⟨_, rfl⟩
 rw [← hZ] at hz
 have hzc : (Value.cells Z).size = 8 := by rw [hZ]; rfl
 have hzv : ∀ w, (zeroValue 98).run Tryz.prog w = .ok Z w := fun w => by simp [zeroValue, typeInfo, hinf, hz]
 have hz1 : ∀ u ∈ (Value.cells Z).toList, one u := by
  intro u hu
  rw [hZ] at hu
  simp [Value.cells] at hu
  first | (subst hu; rfl) | (rcases hu with rfl | rfl | rfl | rfl <;> rfl)
 clear hZ
 have u25 := run_underlying Tryz.underlying62
 have z38 : ∀ w, (sizeOf 98).run Tryz.prog w = .ok 8 w := fun w => by simp [sizeOf, typeInfo, hinf, hsz]
 have mixed := tabOk.mix
 have hc63 : c ≤ 9223372036854775807 := hc
 obtain ⟨e1, e2, e3, e4, e5, e6, e7⟩ := closed_spec (cs := cs) (zs := (Value.cells Z).toList) hs hnc hi (by rw [Array.length_toList]; exact hzc)
 obtain ⟨us, hus⟩ : ∃ us, us = (cs.toList.take (n * 8)).drop ((i + 1) * 8) := ⟨_, rfl⟩
 rw [← hus] at e1 e2 e3
 obtain ⟨A, hA, hsrc⟩ : ∃ A : Addr, (if c = i + 1 then some (⟨b, 0, none⟩ : Addr) else some ⟨b, (i + 1) * 8, none⟩) = some A ∧ (∀ j v, us[j]? = some v → w.drew.cell? (A.add j) = some v) := by
  by_cases h : c = i + 1
  ·refine ⟨⟨b, 0, none⟩, by simp [h], fun j v hj => ?_⟩
   have h0 : us.length = 0 := by rw [e1, show n - (i + 1) = 0 by omega, Nat.zero_mul]
   rw [List.length_eq_zero_iff.1 h0] at hj
   simp at hj
  ·refine ⟨⟨b, (i + 1) * 8, none⟩, by simp [h], fun j v hj => ?_⟩
   rw [hus, List.getElem?_drop, List.getElem?_take] at hj
   rw [addr_add, show w.drew.cell? ⟨b, (i + 1) * 8 + j, none⟩ = w.cell? ⟨b, (i + 1) * 8 + j, none⟩ from rfl, cell_at hh]
   split at hj
   ·simpa using hj
   ·cases hj
 have h1u : ∀ u ∈ us, one u := fun u hu => h1c u (by rw [hus] at hu; exact List.mem_of_mem_drop hu)
 obtain ⟨W1, hW1⟩ : ∃ W1, W1 = wrote w.drew b (i * 8) cs us := ⟨_, rfl⟩
 have hap : ∀ ty, (Builtin.append_ #[62, 62] ty #[.slice (some ⟨b, 0, none⟩) i c, .slice (some A) (n - (i + 1)) (c - (i + 1))]).run Tryz.prog w.drew = .ok (.slice (some ⟨b, 0, none⟩) (i + (n - (i + 1))) c) W1 := fun ty => by
  have := run_append_in (P := Tryz.prog) (w := w.drew) (ty := ty) (T := 62) (b := b) (n := i) (cap := c) (m := n - (i + 1)) (capx := c - (i + 1)) (a := A) (cs := cs) (us := us) (T0 := T) Tryz.underlying62 hinf hh (by rw [hsz]; exact e1) hsrc (by omega) (by rw [hsz]; exact hs) h1u
  rw [this, hsz, hW1]
 have hh1 : W1.heap[b]? = some (.cells (putAt cs.toList (i * 8) us).toArray T (0, 0)) := by rw [hW1]; exact wrote_heap hh
 have hin : i + (n - (i + 1)) = n - 1 := by omega
 rw [hin] at hap
 have hcl : ∀ (W : World), W.heap = W1.heap → ∀ ty cc, (Builtin.clear_ #[62] ty #[.slice (some ⟨b, (n - 1) * 8, none⟩) 1 cc]).run Tryz.prog W = .ok (.tuple #[]) (wrote W b ((n - 1) * 8) (putAt cs.toList (i * 8) us).toArray (Value.cells Z).toList) := fun W hW ty cc =>
  run_clear_one (T0 := T) Tryz.underlying62 hzv (by rw [hW]; exact hh1) (by rw [e3]; rw [Array.length_toList] at e4; exact e4) hz1
 have hend : ∀ W : World, W.heap = (wrote W1 b ((n - 1) * 8) (putAt cs.toList (i * 8) us).toArray (Value.cells Z).toList).heap → W.os = w.os → W.tape = w.tape → W.output = w.output → DelE w W 8 (.slice (some ⟨b, 0, none⟩) (n - 1) c) n i b c cs T (closed cs 8 n i (Value.cells Z).toList) := fun W hW g1 g2 g3 => by
  refine ⟨rfl, ?_, e5, e6, e7, g1, g2, g3, ?_, fun x hx => ?_⟩
  ·rw [hW, wrote_heap hh1, closed, ← hus]
  ·rw [hW, hW1]; simp [wrote, World.setRow]
  ·rw [hW, wrote_other hx, hW1, wrote_other hx]; rfl
 have hw2 : IntKind.i64.wrap ((i : Int) + 1) = ((i + 1 : Nat) : Int) := by rw [IntKind.wrap_i64]; omega
 have hci : ¬ (c = n - 1) := by omega
 have hne : ¬ ((i : Int) = (i : Int) + 1) := by omega
 have htn : ((i : Int) + 1).toNat = i + 1 := by omega
 have hb1 : (0 : Int) ≤ (i : Int) + 1 := by omega
 have hb2 : (i : Int) + 1 ≤ (n : Int) := by omega
 have hb3 : (i : Int) + 1 ≤ (c : Int) := by omega
 have hb4 : i ≤ c := by omega
 have hb5 : (i : Int) ≤ (i : Int) + 1 := by omega
 have hb6 : n - (n - 1) = 1 := by omega
 have hb7 : n - 1 ≤ n := by omega
 have g1 : W1.os = w.os := by rw [hW1]; rfl
 have g2 : W1.tape = w.tape := by rw [hW1]; rfl
 have g3 : W1.output = w.output := by rw [hW1]; rfl
 obtain ⟨zs, hzs⟩ : ∃ zs, zs = (Value.cells Z).toList := ⟨_, rfl⟩
 rw [← hzs] at hcl hend
 clear hzs hzv hz1 hzc hW1
 clear hinf hz hby e1 e2 e3 e4 e5 e6 e7 h1u hsrc hh1 h1c hus
 go_enter Tryz.func198, Tryz.ntmps198
 go_wp2_with fail
 go_region_law_o (refine step_append_runI rfl (.tmp 22) (.tmp 25) 62 rfl _ _ (by simp [Act.eval, Act.put]) (by simp [Act.eval, Act.put]) (hap _) ?_)
 go_wp2_with (at_builtin; refine wpList_clear_runI _ rfl _ 62 rfl _ rfl (hcl _ rfl _ _) ?_)
 all_goals go_ret
 all_goals exact ⟨.slice (some ⟨b, 0, none⟩) (n - 1) c, _, rfl, hend _ rfl g1 g2 g3⟩
theorem delHFn : DelFn Tryz.prog 198 .hld := fun w n b cap cs T i hh h1 h2 h3 h4 h5 _ => delH_run w n b cap cs T i hh h1 h2 h3 h4 h5
theorem okDeleteH : SpecOk1 Tryz.prog 198 (.raw (delM .hld)) :=
 del_ok ⟨_, _, Tryz.func198, by kernel_rfl, rfl⟩ delHFn
end Go.Proofs.YtjdaiobeiimpfaaGreat
namespace Go.Proofs.YtjdaiobeiimpfaaGreat
open Go.Sx Go.Proofs Go.Mo
noncomputable def sInsertHX : SpecX := .raw (takeX (insM .hld))
theorem okInsertHX : SpecOk1 Tryz.prog 194 sInsertHX := take_ok okInsertH ⟨_, _, Tryz.func194, by kernel_rfl, rfl⟩
noncomputable def sDeleteHX : SpecX := .raw (takeX (delM .hld))
theorem okDeleteHX : SpecOk1 Tryz.prog 198 sDeleteHX := take_ok okDeleteH ⟨_, _, Tryz.func198, by kernel_rfl, rfl⟩
theorem del_erase {l : List Hld} {c : Int} (hs : HSort l) (hp : 0 ≤ holdPlace l c) : hldDel l c = l.eraseIdx (holdPlace l c).toNat := by
 have hlt := hold_lt l c
 have hcc := hold_cell hp
 have hj : (holdPlace l c).toNat < l.length := by omega
 generalize (holdPlace l c).toNat = j at *
 unfold hldDel
 have hl : l = l.take j ++ nth .hld l j :: l.drop (j + 1) := by
  rw [nth_lt .hld l j hj, ← List.drop_eq_getElem_cons hj, List.take_append_drop]
 have hs2 := hs
 rw [hl] at hs2
 obtain ⟨a1, a2, a3⟩ := List.pairwise_append.1 hs2
 have b1 := List.pairwise_cons.1 a2
 have t1 : (l.take j).filter (fun h => decide (h.state.cell ≠ c)) = l.take j := List.filter_eq_self.2 fun y hy => by
  have := a3 y hy _ (List.mem_cons_self ..)
  simp only [ne_eq, decide_eq_true_eq]
  omega
 have t2 : (l.drop (j + 1)).filter (fun h => decide (h.state.cell ≠ c)) = l.drop (j + 1) := List.filter_eq_self.2 fun y hy => by
  have := b1.1 y hy
  simp only [ne_eq, decide_eq_true_eq]
  omega
 rw [List.eraseIdx_eq_take_drop_succ]
 conv => lhs; rw [hl]
 rw [List.filter_append, List.filter_cons, t1, t2]
 simp [hcc]
theorem hearI_facts {m : PMap} {s : Srv} {st : List Sto} {v : Int} {x : Msg} (h1 : srvOk m s = true) (h2 : stosOk m st = true) (h4 : msgOk m v x = true) :
  s.holds.length ≤ 4 ∧ 0 ≤ x.cell ∧ x.cell < st.length ∧ holdPlace s.holds x.cell < s.holds.length ∧ stoOk m (nth .sto st x.cell.toNat) = true ∧
  (0 ≤ holdPlace s.holds x.cell → hldOk m (nth .hld s.holds (holdPlace s.holds x.cell).toNat) = true ∧ (nth .hld s.holds (holdPlace s.holds x.cell).toNat).state.ins.length = 2 ∧ cllOk m (nth .hld s.holds (holdPlace s.holds x.cell).toNat).state = true ∧ 0 ≤ (nth .hld s.holds (holdPlace s.holds x.cell).toNat).count ∧ (nth .hld s.holds (holdPlace s.holds x.cell).toNat).count ≤ 250) ∧
  (0 ≤ holdPlace s.holds x.cell → ∀ (a b : Int) (c : Cll), c.cell = (nth .hld s.holds (holdPlace s.holds x.cell).toNat).state.cell → hldPut s.holds ⟨a, b, c⟩ = s.holds.set (holdPlace s.holds x.cell).toNat ⟨a, b, c⟩) ∧
  (0 ≤ holdPlace s.holds x.cell → ∀ (a b : Int), hldPut s.holds ⟨a, b, stoState m (nth .sto st x.cell.toNat)⟩ = s.holds.set (holdPlace s.holds x.cell).toNat ⟨a, b, stoState m (nth .sto st x.cell.toNat)⟩) ∧
  (¬ 0 ≤ holdPlace s.holds x.cell → ∀ (k : Nat) (a b : Int), k ≤ s.holds.length → allTo k (cellLess s.holds x.cell) = true → (k < s.holds.length → ¬ (nth .hld s.holds k).state.cell < x.cell) → hldPut s.holds ⟨a, b, stoState m (nth .sto st x.cell.toNat)⟩ = insL s.holds k [⟨a, b, stoState m (nth .sto st x.cell.toNat)⟩]) ∧
  (0 ≤ holdPlace s.holds x.cell → hldDel s.holds x.cell = s.holds.eraseIdx (holdPlace s.holds x.cell).toNat) ∧
  (x.kind = 1 → 1 ≤ x.n ∧ x.n ≤ 900 ∧ stoOk m ⟨x.n, (nth .sto st x.cell.toNat).base, (nth .sto st x.cell.toNat).recs⟩ = true ∧ stoState m ⟨x.n, (nth .sto st x.cell.toNat).base, (nth .sto st x.cell.toNat).recs⟩ = stoState m (nth .sto st x.cell.toNat)) ∧
  (x.kind = 5 → (x.side = 0 ∨ x.side = 1) ∧ 0 ≤ x.pcl.n) ∧
  (0 ≤ holdPlace s.holds x.cell → x.side = 0 ∨ x.side = 1 → @LE.le Int _ 0 (nth .int (nth .hld s.holds (holdPlace s.holds x.cell).toNat).state.ins x.side.toNat) ∧ @LE.le Int _ (nth .int (nth .hld s.holds (holdPlace s.holds x.cell).toNat).state.ins x.side.toNat) 5000) := by
 have hf := hear_facts h1 h2 h4
 obtain ⟨f1, f2, f3, f4, f5, f6, f7, f8, f9, f10⟩ := hf
 have hlt := hold_lt s.holds x.cell
 have hb : (nth .sto st x.cell.toNat).base.cell = x.cell := by
  have := ((stosOk_iff.1 h2).2.2 x.cell.toNat (by omega)).2
  omega
 have hsc : (stoState m (nth .sto st x.cell.toNat)).cell = x.cell := by rw [state_cell, hb]
 have hH : 0 ≤ holdPlace s.holds x.cell → srvHas s x.cell = true ∧ srvHold s x.cell = nth .hld s.holds (holdPlace s.holds x.cell).toNat := fun hp => ⟨by simp [srvHas, hp], by unfold srvHold; rw [if_pos hp]⟩
 refine ⟨srv_few h1, f3, f4, hlt.2, f5, fun hp => ?_, fun hp a b c hc => ?_, fun hp a b => ?_, fun hp k a b hk ha hl => ?_, fun hp => ?_, fun hk => ?_, f9, fun hp hsd => ?_⟩
 ·have := f6 (hH hp).1
  rw [(hH hp).2] at this
  have hh := hldOk_iff.1 this.1
  exact ⟨this.1, this.2.2, hh.2.2, hh.2.1.1, hh.2.1.2⟩
 ·have hcc := hold_cell hp
  unfold hldPut
  have e : (⟨a, b, c⟩ : Hld).state.cell = x.cell := by show c.cell = x.cell; rw [hc, hcc]
  rw [e, if_pos hp]
 ·unfold hldPut
  have e : (⟨a, b, stoState m (nth .sto st x.cell.toNat)⟩ : Hld).state.cell = x.cell := hsc
  rw [e, if_pos hp]
 ·unfold hldPut
  have e : (⟨a, b, stoState m (nth .sto st x.cell.toNat)⟩ : Hld).state.cell = x.cell := hsc
  rw [e, if_neg hp, hld_pos hk ha hl]
 ·exact del_erase (hsort_of h1) hp
 ·have hn := f8 hk
  have hso := stoOk_iff.1 f5
  exact ⟨hn.1, hn.2, stoOk_iff.2 ⟨⟨by show 0 ≤ x.n; omega, by show x.n ≤ 900; omega⟩, hso.2.1, hso.2.2.1, hso.2.2.2⟩, rfl⟩
 ·have := f10 (hH hp).1 hsd
  rw [(hH hp).2] at this
  exact this
theorem stoAppend_eq {m : PMap} {s : Sto} {a b : Int} {r : Rec} (h : stoOk m s = true) : stoAppend m s a b r = stoAdd m s a b r := by rw [stoAppend, if_pos h]
theorem add_log {m : PMap} {s : Sto} {a b : Int} {r : Rec} (h : (stoAdd m s a b r).n = 1) : logOk m r = true := by
 unfold stoAdd at h
 split at h
 ·simp at h
 ·split at h
  ·simp at h
  ·split at h
   ·rename_i hh; exact hh.1
   ·simp at h
theorem ncastQ (n : Nat) : (NatCast.natCast n : Int) = (n : Int) := rfl
end Go.Proofs.YtjdaiobeiimpfaaGreat
