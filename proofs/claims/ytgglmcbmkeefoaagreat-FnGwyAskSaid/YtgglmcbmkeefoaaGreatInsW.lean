/-
  Contracts: stores compared.
-/
import Derived.Test.YtgglmcbmkeefoaaGreatFoT
import Derived.Test.YtgglmcbmkeefoaaGreatM2
import Derived.Test.YtgglmcbmkeefoaaGreatTok
import Derived.Test.YtgglmcbmkeefoaaGreatS5
set_option linter.unusedVariables false
set_option linter.unusedSimpArgs false
namespace Go.Mo
open Go.Sx
theorem sto_ext {a b : Sto} : a = b ↔ a.age = b.age ∧ a.base = b.base ∧ a.recs = b.recs := by
  cases a; cases b; simp
theorem hld_ext {a b : Hld} : a = b ↔ a.age = b.age ∧ a.count = b.count ∧ a.state = b.state := by
  cases a; cases b; simp
end Go.Mo
namespace Go.Proofs.YtgglmcbmkeefoaaGreat
open Go.Sx Go.Proofs Go.Mo
set_option maxRecDepth 100000
set_option maxHeartbeats 8000000
set_option linter.unusedSimpArgs false
set_option linter.unusedVariables false

noncomputable def sIsS : Sx.Spec := ⟨false, true, [.row .sto, .row .sto], [], fun _ _ ⟨a, b, _⟩ => .ret (vB fun _ => decide (a () = b ()), fun _ => 0)⟩
noncomputable def sIsH : Sx.Spec := ⟨false, true, [.row .hld, .row .hld], [], fun _ _ ⟨a, b, _⟩ => .ret (vB fun _ => decide (a () = b ()), fun _ => 0)⟩
theorem okIsRecs : SpecOk1 Tryz.prog 158 sIsR := spec1 tabOk (ss := []) trivial rfl rfl <| by
  intro (bs : Th (List Int)) (p : Th Int) ⟨(a : Th (List Sx.Rec)), (b : Th (List Sx.Rec)), u⟩ K _ _ ho h
  obtain ⟨a, rfl⟩ := th_ex a; obtain ⟨b, rfl⟩ := th_ex b
  have hl := okL (ho.1 _ (.head _))
  refine ⟨annL [(158, 4, ⟨Nat, [], fun σ k => σ.t 5 (vI fun _ => (k : Int)), fun _ k _ => k ≤ a.length ∧ a.length = b.length ∧ same .rcd a b k, fun _ k _ => a.length - k⟩)], noAnn, 20, ?_⟩
  cbv
  repeat' first | ((with_reducible refine fun (k : Nat) => ?_); cbv) | ((with_reducible refine fun (q : Nat × Unit) => ?_); obtain ⟨s, _⟩ := q; cbv) | ((with_reducible refine fun (q : Nat × Nat) => ?_); obtain ⟨s, k⟩ := q; cbv) | ((with_reducible intro _); cbv) | ((with_reducible show _ ∧ _); (with_reducible apply And.intro))
  all_goals try ((first | (with_reducible refine LoopIn.mk ((0 : Nat)) ?_ ?_) | (with_reducible refine LoopBack.mk ((k + 1 : Nat)) ?_ ?_ ?_)) )
  all_goals try ((with_reducible show matchSt _ _); cbv; (try simp only [and_true, true_and]))
  all_goals try (with_reducible show _ ∧ _; (repeat' (with_reducible apply And.intro)))
  all_goals first | (refine retK h ?_; clear h; simp only [fin0]) | (with_reducible refine Ob.mk ?_; clear h) | (clear h)
  all_goals (try simp only [eta0, RT.bytes] at *)
  all_goals grind [wrap_succ, same_zero, same_succ, same_all, wlk_ext, pcl_ext, ord_ext, rec_ext]
theorem okIsStore : SpecOk1 Tryz.prog 129 sIsS := spec1 tabOk (ss := [(157, sIsC), (158, sIsR)]) ⟨okIsCell, okIsRecs, trivial⟩ rfl rfl <| by
  intro (bs : Th (List Int)) (p : Th Int) ⟨(a : Th Sto), (b : Th Sto), u⟩ K _ _ ho h
  obtain ⟨a, rfl⟩ := th_ex a; obtain ⟨b, rfl⟩ := th_ex b
  refine ⟨noAnn, noAnn, 20, ?_⟩
  cbv
  repeat' first | ((with_reducible refine fun (k : Nat) => ?_); cbv) | ((with_reducible refine fun (q : Nat × Unit) => ?_); obtain ⟨s, _⟩ := q; cbv) | ((with_reducible refine fun (q : Nat × Nat) => ?_); obtain ⟨s, k⟩ := q; cbv) | ((with_reducible intro _); cbv) | ((with_reducible show _ ∧ _); (with_reducible apply And.intro))
  all_goals first | (refine retK h ?_; clear h; simp only [fin0]) | (with_reducible refine Ob.mk ?_; clear h) | (clear h)
  all_goals (try simp only [eta0, RT.bytes] at *)
  all_goals grind [sto_ext]

end Go.Proofs.YtgglmcbmkeefoaaGreat

/-
  slices.Insert of one walker: the library's own text walked, each road.
-/
namespace Go.Proofs.YtgglmcbmkeefoaaGreat
open Go.Sx Go.Proofs Go.RowKit
set_option maxRecDepth 100000
set_option maxHeartbeats 8000000
set_option linter.unusedSimpArgs false
set_option linter.unusedVariables false

theorem ins_info : (Tryz.prog.info? 40).map (fun i => (i.zero, i.size, i.bytes)) = some (some (.agg #[.int .i64 0, .int .i64 0, .int .i64 0, .int .i64 0, .int .i64 0]), 5, 40) := by kernel_rfl
theorem ins_ty : ∃ inf z, Tryz.prog.info? 40 = some inf ∧ inf.size = 5 ∧ inf.bytes = 40 ∧ inf.zero = some z ∧ z.cells.size = 5 := by
  obtain ⟨i0, h1, h2, h3, h4⟩ := info_parts ins_info
  exact ⟨i0, _, h1, h3, h4, h2, rfl⟩

theorem ins_grow (w : World) (b n c i vb voff vc T tV : Nat) (cs vcs : Array Value) (us : List Value) (hi : i < n) (hnc : n ≤ c) (hroom : c < n + 1) (hc : c ≤ maxLen) (hh : w.heap[b]? = some (.cells cs T (0, 0))) (hs : cs.size = c * 5) (hu : us.length = 5)
    (hvh : w.heap[vb]? = some (.cells vcs tV (0, 0))) (hvs : ∀ j v, us[j]? = some v → w.cell? ⟨vb, voff + j, none⟩ = some v) (h1 : ∀ u ∈ us, one u) (h1c : ∀ u ∈ cs.toList.take (n * 5), one u) (hbig : (n + 1) * 40 ≤ 140737488355328) :
    Calls Tryz.prog 224 #[.slice (some ⟨b, 0, none⟩) n c, .int .i64 i, .slice (some ⟨vb, voff, none⟩) 1 vc] w fun e w' =>
      ∃ v, e = .returned v ∧ InsE w w' 5 (.slice (some ⟨b, 0, none⟩) n c) v n i 1 b c cs us := by
  obtain ⟨inf, z, hinf, hsz, hby, hz, hzc⟩ := ins_ty
  have u25 := run_underlying Tryz.underlying51
  have z38 : ∀ w, (sizeOf 40).run Tryz.prog w = .ok 5 w := fun w => by simp [sizeOf, typeInfo, hinf, hsz]
  have mixed := tabOk.mix
  have hc63 : c ≤ 9223372036854775807 := hc
  have hsrc : ∀ j v, ((cs.toList.take (n * 5)).drop (i * 5))[j]? = some v → w.cell? ⟨b, i * 5 + j, none⟩ = some v := fun j v hj => by
    rw [List.getElem?_drop, List.getElem?_take] at hj
    rw [cell_at hh]
    split at hj
    · simpa using hj
    · cases hj
  have hi5 : (i + 1) * 5 ≤ c * 5 := Nat.mul_le_mul_right _ (by omega)
  have hold : (Builtin.firstCells inf.size i (.slice (some ⟨b, 0, none⟩) i c)).run Tryz.prog w.drew = .ok (cs.toList.take (i * 5)).toArray w.drew := by
    rw [hsz]
    exact run_firstCells_some w.drew 5 i ⟨b, 0, none⟩ i c (cs.toList.take (i * 5)) (by rw [List.length_take, Array.length_toList, hs]; omega) (fun j v hj => by
      rw [addr_add, Nat.zero_add, show w.drew.cell? ⟨b, j, none⟩ = w.cell? ⟨b, j, none⟩ from rfl, cell_at hh]
      rw [List.getElem?_take] at hj
      split at hj
      · simpa using hj
      · cases hj)
  have hik : i + (n + 1 - i) = n + 1 := by omega
  have hkk : (n : Int) + 1 - (i : Int) = ((n + 1 - i : Nat) : Int) := by omega
  have hrz : ∀ ty, (Builtin.append_ #[51, 3] ty #[.slice (some ⟨b, 0, none⟩) i c, .int .i64 ((n : Int) + 1 - (i : Int))]).run Tryz.prog w =
      .ok (.slice (some ⟨w.heap.size, 0, none⟩) (n + 1) (grownCap w (n + 1) c 40)) (w.drew.alloc (.cells ((cs.toList.take (i * 5)).toArray ++ Builtin.zeroCells z.cells (n + 1 - i) ++ Builtin.zeroCells z.cells (grownCap w (n + 1) c 40 - (n + 1))) 40)) := fun ty => by
    have h := Lib.run_append_grow_zeros w 51 3 ty 40 inf z .i64 .i64 Tryz.underlying51 Tryz.underlying3 hinf hz (some ⟨b, 0, none⟩) i c (cs.toList.take (i * 5)) hold (n + 1 - i) (by omega) (by omega) (by omega) (by omega) (by rw [hby]; omega) (by rw [hby, hik]; exact growslice_fits hroom hbig)
    rw [hik] at h
    rw [hkk]
    exact h
  obtain ⟨G, hG⟩ : ∃ G, G = grownCap w (n + 1) c 40 := ⟨_, rfl⟩
  have hGn : n + 1 ≤ G := by rw [hG]; exact grownCap_ge w _ _ _
  have hGm : G ≤ maxLen := by rw [hG]; exact grownCap_le_maxLen w (n + 1) c _ (by unfold maxLen; omega)
  have hG63 : G ≤ 9223372036854775807 := hGm
  obtain ⟨ROW, hROW⟩ : ∃ ROW : Array Value, ROW = (cs.toList.take (i * 5)).toArray ++ Builtin.zeroCells z.cells (n + 1 - i) ++ Builtin.zeroCells z.cells (G - (n + 1)) := ⟨_, rfl⟩
  rw [← hG] at hrz
  rw [← hROW] at hrz
  have hRl : ROW.toList.length = G * 5 := by
    rw [hROW, Array.length_toList]
    simp only [Array.size_append, List.size_toArray, size_zeroCells, hzc, List.length_take, Array.length_toList, hs]
    omega
  have hR0 : ∀ o, o < i * 5 → ROW.toList[o]? = cs[o]? := fun o ho => by
    have hl : (cs.toList.take (i * 5)).length = i * 5 := by rw [List.length_take, Array.length_toList, hs]; omega
    rw [hROW]
    simp only [Array.toList_append]
    rw [List.append_assoc, List.getElem?_append_left (by rw [List.toList_toArray, hl]; exact ho), List.toList_toArray, List.getElem?_take, if_pos ho]
    simp
  have htl := tail_len (i := i) hs hnc
  have hbw : b < w.heap.size := by
    rcases Nat.lt_or_ge b w.heap.size with h | h
    · exact h
    · rw [Array.getElem?_eq_none h] at hh; cases hh
  have hvw : vb < w.heap.size := by
    rcases Nat.lt_or_ge vb w.heap.size with h | h
    · exact h
    · rw [Array.getElem?_eq_none h] at hvh; cases hvh
  obtain ⟨W1, hW1⟩ : ∃ W1, W1 = w.drew.alloc (.cells ROW 40) := ⟨_, rfl⟩
  rw [← hW1] at hrz
  have hN1 : W1.heap[w.heap.size]? = some (.cells ROW 40 (0, 0)) := by rw [hW1]; exact alloc_new' w _
  have hO1 : ∀ x, x < w.heap.size → W1.heap[x]? = w.heap[x]? := fun x hx => by rw [hW1]; exact alloc_old' w _ x hx
  obtain ⟨R2, hR2⟩ : ∃ R2, R2 = (putAt ROW.toList (i * 5) us).toArray := ⟨_, rfl⟩
  have hG5 : (n + 1) * 5 ≤ G * 5 := Nat.mul_le_mul_right _ hGn
  have hR2l : R2.size = G * 5 := by rw [hR2, List.size_toArray, putAt_length _ _ _ (by rw [hu, hRl]; omega), hRl]
  have hcpA : ∀ (W : World), W.heap = W1.heap → ∀ ty dc, (Builtin.copy_ #[51, 51] ty #[.slice (some ⟨w.heap.size, i * 5, none⟩) (n + 1 - i) dc, .slice (some ⟨vb, voff, none⟩) 1 vc]).run Tryz.prog W = .ok (goInt (1 : Nat)) (wrote W w.heap.size (i * 5) ROW us) := fun W hW ty dc =>
    run_copy_big (k := 1) (us := us) (T := 40) Tryz.underlying51 hinf (by simp only [Nat.min_def]; split <;> omega) (by rw [hsz, hu]) (fun j v hj => by
      rw [addr_add, cell_at (cs := vcs) (T := tV) (by rw [hW, hO1 _ hvw]; exact hvh)]
      have := hvs j v hj
      rw [cell_at hvh] at this
      exact this) (by rw [hW]; exact hN1) (by rw [hu, ← Array.length_toList, hRl]; omega) h1
  obtain ⟨W2, hW2⟩ : ∃ W2, W2 = wrote W1 w.heap.size (i * 5) ROW us := ⟨_, rfl⟩
  have hcpB : ∀ (W : World), W.heap = W2.heap → ∀ ty dc sc, (Builtin.copy_ #[51, 51] ty #[.slice (some ⟨w.heap.size, (i + 1) * 5, none⟩) (n - i) dc, .slice (some ⟨b, i * 5, none⟩) (n - i) sc]).run Tryz.prog W = .ok (goInt (n - i : Nat)) (wrote W w.heap.size ((i + 1) * 5) R2 ((cs.toList.take (n * 5)).drop (i * 5))) := fun W hW ty dc sc =>
    run_copy_big (k := n - i) (us := (cs.toList.take (n * 5)).drop (i * 5)) (T := 40) Tryz.underlying51 hinf (by simp only [Nat.min_def]; split <;> omega) (by rw [hsz, htl]) (fun j v hj => by
      rw [addr_add, cell_at (cs := cs) (T := T) (by rw [hW, hW2, wrote_other (by omega), hO1 _ hbw]; exact hh)]
      have := hsrc j v hj
      rw [cell_at hh] at this
      exact this) (by rw [hW, hW2, hR2]; exact wrote_heap hN1) (by rw [htl, hR2l]; omega) (fun u hu => h1c u (List.mem_of_mem_drop hu))
  have hGi : ¬ (G = i) := by omega
  have hGim : ¬ (G = i + 1) := by omega
  have hci : ¬ (c = i) := by omega
  have hw1 : IntKind.i64.wrap ((n : Int) + 1) = ((n + 1 : Nat) : Int) := by rw [IntKind.wrap_i64]; omega
  have hw2 : IntKind.i64.wrap ((i : Int) + 1) = ((i + 1 : Nat) : Int) := by rw [IntKind.wrap_i64]; omega
  have hb1 : (0 : Int) ≤ (i : Int) + 1 := by omega
  have hin : i ≤ n := by omega
  have htn : ((i : Int) + 1).toNat = i + 1 := by omega
  have hb3 : (i : Int) ≤ (n : Int) := by omega
  have hne : ¬ ((i : Int) = (n : Int)) := by omega
  have hend : ∀ W : World, W.heap = (wrote W2 w.heap.size ((i + 1) * 5) R2 ((cs.toList.take (n * 5)).drop (i * 5))).heap → W.os = w.os → W.tape = w.tape → W.output = w.output → InsE w W 5 (.slice (some ⟨b, 0, none⟩) n c) (.slice (some ⟨w.heap.size, 0, none⟩) (n + 1) G) n i 1 b c cs us := fun W hW g1 g2 g3 => by
    refine ⟨_, _, _, 40, InsM.grow (row := ROW.toList) hRl hs hnc hGn hGm hi hu hR0 ?_ rfl ?_ (fun x hx => ?_) g1 g2 g3⟩
    · rw [hW, wrote_heap (T := 40) (by rw [hW2, hR2]; exact wrote_heap hN1), grownL, hR2]
    · rw [hW, hW2, hW1]; simp [wrote, World.setRow, World.alloc]
    · rw [hW, wrote_other (by omega), hW2, wrote_other (by omega)]; exact hO1 x hx
  clear hkk hik hold hROW hG hRl hR0
  go_enter Tryz.func224, Tryz.ntmps224
  go_wp2_with (first
    | (at_builtin; refine Lib.wpList_append_run _ rfl _ _ _ _ rfl _ _ rfl rfl _ _ (hrz _) ?_)
    | (at_builtin; refine wpList_copy_runI _ rfl _ _ 51 51 rfl _ _ rfl rfl (hcpA _ rfl _ _) ?_))
  go_region_law_o (refine step_copy_runI rfl _ _ 51 51 rfl (.slice (some ⟨w.heap.size, (i + 1) * 5, none⟩) (n - i) (G - (i + 1))) (.slice (some ⟨b, i * 5, none⟩) (n - i) (c - i)) (by simp [Act.eval, Act.put]) (by simp [Act.eval, Act.put]) (hcpB _ (by rw [hW2, hW1]; rfl) _ _ _) ?_)
  go_wp2
  go_ret
  exact ⟨.slice (some ⟨w.heap.size, 0, none⟩) (n + 1) G, rfl, hend _ (by rw [hW2, hW1, hR2]; rfl) rfl rfl rfl⟩

theorem ins_end (w : World) (b n c vb voff vc T : Nat) (cs : Array Value) (us : List Value) (hn : n ≤ c) (hc : c ≤ maxLen) (hh : w.heap[b]? = some (.cells cs T (0, 0))) (hs : cs.size = c * 5) (hu : us.length = 5)
    (hvs : ∀ j v, us[j]? = some v → w.cell? ⟨vb, voff + j, none⟩ = some v) (h1 : ∀ u ∈ us, one u) (hb : (n + 1) * 40 ≤ 140737488355328) :
    Calls Tryz.prog 224 #[.slice (some ⟨b, 0, none⟩) n c, .int .i64 n, .slice (some ⟨vb, voff, none⟩) 1 vc] w fun e w' =>
      ∃ v, e = .returned v ∧ InsE w w' 5 (.slice (some ⟨b, 0, none⟩) n c) v n n 1 b c cs us := by
  obtain ⟨inf, z, hinf, hsz, hby, hz, hzc⟩ := ins_ty
  have u25 := run_underlying Tryz.underlying51
  have z38 : ∀ w, (sizeOf 40).run Tryz.prog w = .ok 5 w := fun w => by simp [sizeOf, typeInfo, hinf, hsz]
  have hc63 : c ≤ 9223372036854775807 := hc
  have mixed := tabOk.mix
  rcases run_append_all (P := Tryz.prog) (ty := 51) (w := w) Tryz.underlying51 hinf hz hsz hby hzc (Old.row n b c cs T hh hn hc hs) (m := 1) (us := us) ⟨by rw [hu], .inr (.inr ⟨vb, voff, vc, rfl, hvs⟩)⟩ h1 (by omega) (by simpa using hb) with ⟨_, h, _⟩ | ⟨v, w', b', cap', cs', T', hr, A⟩
  · cases h
  · have hend : InsE w w' 5 _ v _ _ 1 b _ cs us := ⟨_, _, _, _, A.ins⟩
    by_cases hcn : n = c
    · subst hcn
      go_enter Tryz.func224, Tryz.ntmps224
      go_wp2_with (at_builtin; refine Lib.wpList_append_run _ rfl _ _ _ _ rfl _ _ rfl rfl _ _ hr ?_)
      go_ret
      exact ⟨v, rfl, hend⟩
    · have hcn2 : ¬ (c = n) := fun h => hcn h.symm
      go_enter Tryz.func224, Tryz.ntmps224
      go_wp2_with (at_builtin; refine Lib.wpList_append_run _ rfl _ _ _ _ rfl _ _ rfl rfl _ _ hr ?_)
      go_ret
      exact ⟨v, rfl, hend⟩

theorem ins_nil (w : World) (b vb voff vc T : Nat) (cs : Array Value) (us : List Value) (hcs : cs = #[]) (hu : us.length = 5)
    (hvs : ∀ j v, us[j]? = some v → w.cell? ⟨vb, voff + j, none⟩ = some v) (h1 : ∀ u ∈ us, one u) :
    Calls Tryz.prog 224 #[.slice none 0 0, .int .i64 0, .slice (some ⟨vb, voff, none⟩) 1 vc] w fun e w' =>
      ∃ v, e = .returned v ∧ InsE w w' 5 (.slice none 0 0) v 0 0 1 b 0 cs us := by
  obtain ⟨inf, z, hinf, hsz, hby, hz, hzc⟩ := ins_ty
  have u25 := run_underlying Tryz.underlying51
  have z38 : ∀ w, (sizeOf 40).run Tryz.prog w = .ok 5 w := fun w => by simp [sizeOf, typeInfo, hinf, hsz]
  have mixed := tabOk.mix
  rcases run_append_all (P := Tryz.prog) (ty := 51) (w := w) Tryz.underlying51 hinf hz hsz hby hzc (Old.nil b 0 cs T hcs rfl) (m := 1) (us := us) ⟨by rw [hu], .inr (.inr ⟨vb, voff, vc, rfl, hvs⟩)⟩ h1 (by omega) (by omega) with ⟨_, _, _, h⟩ | ⟨v, w', b', cap', cs', T', hr, A⟩
  · cases h
  · go_enter Tryz.func224, Tryz.ntmps224
    have hend : InsE w w' 5 _ v _ _ 1 b _ cs us := ⟨_, _, _, _, A.ins⟩
    go_wp2_with (at_builtin; refine Lib.wpList_append_run _ rfl _ _ _ _ rfl _ _ rfl rfl _ _ hr ?_)
    all_goals go_ret
    all_goals first | exact ⟨v, rfl, hend⟩ | (have hcn : c = n := by (first | assumption | (symm; assumption) | omega); subst hcn; exact ⟨v, rfl, hend⟩)

end Go.Proofs.YtgglmcbmkeefoaaGreat
