/-
  Contracts: worlds drawn.
-/
import Derived.Test.YtjdaiobeiimpfaaGreatGnT
import Derived.Test.YtjdaiobeiimpfaaGreatGrS
import Derived.Test.YtjdaiobeiimpfaaGreatGnR
import Derived.Test.YtjdaiobeiimpfaaGreatM3
set_option linter.unusedVariables false
set_option linter.unusedSimpArgs false
set_option maxRecDepth 100000
set_option maxHeartbeats 8000000
namespace Go.Proofs.YtjdaiobeiimpfaaGreat
open Go.Sx Go.Proofs Go.Mo
noncomputable def rWld (a b : Int) (c : List Srv) (d : List Sto) (e f : List Int) (g : List Row) (h : List Msg) (i : List Note) : V := .agg [cI a, cI b, .att (.list .srv fun _ => c), .att (.list .sto fun _ => d), .att (.list .int fun _ => e), .att (.list .int fun _ => f), .att (.list .row fun _ => g), .att (.list .msg fun _ => h), .att (.list .note fun _ => i)]
noncomputable def sPlaysE : Sx.Spec := ⟨true, false, [.row .wld, .int .i64], [[some .evt], nWld], fun _ p ⟨w0, n, _⟩ => .asrt (fun _ => 0 ≤ p () ∧ p () ≤ 990000000000 ∧ n () ≤ 200 ∧ (w0 ()).rows.length ≤ 20 ∧ (w0 ()).stores.length ≤ 20) (.all (List Evt) fun l => .all Int fun a => .all Int fun b => .all (List Srv) fun c => .all (List Sto) fun d => .all (List Int) fun e => .all (List Int) fun f => .all (List Row) fun g => .all (List Msg) fun h => .all (List Note) fun i => .all Int fun q => .asm (fun _ => p () ≤ q ∧ q ≤ p () + 100000 ∧ ((l.length : Int) ≤ n () ∨ l.length = 0) ∧ wP (w0 ()) ⟨⟨a, b⟩, c, d, ⟨e, f⟩, g, h, i⟩) (.ret (.tup [vL .evt fun _ => l, rWld a b c d e f g h i], fun _ => q)))⟩
noncomputable def wldRun (p : Th Int) (B n : Int) : Rn (V × Th Int) := .asrt (fun _ => 0 ≤ p () ∧ p () ≤ B) (.all Int fun a => .all Int fun b => .all (List Srv) fun c => .all (List Sto) fun d => .all (List Int) fun e => .all (List Int) fun f => .all (List Row) fun g => .all (List Msg) fun h => .all (List Note) fun i => .all Int fun q => .asm (fun _ => p () ≤ q ∧ q ≤ p () + n ∧ wldOk ⟨⟨a, b⟩, c, d, ⟨e, f⟩, g, h, i⟩ = true) (.ret (rWld a b c d e f g h i, fun _ => q)))
noncomputable def sBegin : Sx.Spec := ⟨true, false, [], [nWld], fun _ p _ => wldRun p 980000000000 100⟩
noncomputable def sWorld : Sx.Spec := ⟨true, false, [], [nWld], fun _ p _ => wldRun p 970000000000 200000⟩
def St.kill (σ : St) (ks : List Nat) : St := ks.foldl (fun s k => s.h k (1, .dead)) σ
theorem okPlaysE : SpecOk1 Tryz.prog 97 sPlaysE := spec1 tabOk (ss := [(29, sPick), (28, sEventE), (144, sLateE), (145, sStoryE), (146, sLivelyE), (12, sSWldStep)]) ⟨okPick, okEventE, okLateE, okStoryE, okLivelyE, okSWldStep, trivial⟩ rfl rfl <| by
 intro (bs : Th (List Int)) (p : Th Int) ⟨(w0 : Th Wld), (n : Th Int), u⟩ K hb hp0 ho h
 obtain ⟨w0, rfl⟩ := th_ex w0; obtain ⟨n, rfl⟩ := th_ex n; obtain ⟨bs, rfl⟩ := th_ex bs; obtain ⟨p, rfl⟩ := th_ex p
 obtain ⟨hpre, h⟩ := h
 have hpre : 0 ≤ p ∧ p ≤ 990000000000 ∧ n ≤ 200 ∧ w0.rows.length ≤ 20 ∧ w0.stores.length ≤ 20 := hpre.out
 have hz := wP_refl w0
 have hs := fun (w : Wld) (e : Evt) (h : wP w0 w) => wP_step e h
 have hf := fun (w : Wld) (h : wP w0 w) => wP_few h hpre.2.2.2.1 hpre.2.2.2.2
 refine ⟨annL [(97, 6, ⟨Th (List Evt) × Th Wld × Th Int × Th Int × Th Int × Th Int, [], fun σ g => ((((((((σ.fgs [15]).t 12 (.one (.att (.int .i64 g.2.2.1)))).t 10 (.one (.att (.int .i64 g.2.2.2.1)))).t 11 (.one (.att (.int .i64 g.2.2.2.2.1)))).t 8 (vO 15 1)).h 15 (1, .row true 0 .evt g.1)).cellsA 5 0 (encWld g.2.1)).cellC 0 1 (.att (.int .i64 g.2.2.2.2.2))),
  fun _ g _ => Ob fun _ => 0 ≤ g.2.2.1 () ∧ (g.2.2.1 () ≤ n ∨ g.2.2.1 () = 0) ∧ ((g.1 ()).length : Int) = g.2.2.1 () ∧ 0 ≤ g.2.2.2.1 () ∧ g.2.2.2.1 () ≤ 6 ∧ p ≤ g.2.2.2.2.2 () ∧ g.2.2.2.2.2 () ≤ p + 1 + 400 * g.2.2.1 () ∧ wP w0 (g.2.1 ()), fun _ g _ => (n - g.2.2.1 ()).toNat⟩)], noAnn, 20, ?_⟩
 cbv
 repeat' first | ((with_reducible refine fun (g : Th (List Evt) × Th Wld × Th Int × Th Int × Th Int × Th Int) => ?_); obtain ⟨l, w, i, s, t, q⟩ := g; obtain ⟨l, rfl⟩ := th_ex l; obtain ⟨w, rfl⟩ := th_ex w; obtain ⟨i, rfl⟩ := th_ex i; obtain ⟨s, rfl⟩ := th_ex s; obtain ⟨t, rfl⟩ := th_ex t; obtain ⟨q, rfl⟩ := th_ex q; (with_reducible refine ImpB.out ?_); cbv; (with_reducible refine ImpB.mk ?_); intro hq; obtain ⟨hq⟩ := hq) | ((with_reducible intro _); cbv) | (with_reducible refine And.intro ?_ ?_)
 all_goals try ((first | (with_reducible refine LoopIn.wf (fun σ => (σ.rowL .evt 15, rdWld σ 5, σ.tmI 12, σ.tmI 10, σ.tmI 11, asI (σ.ce 0 1))) ?_ ?_) | (with_reducible refine LoopBack.wf (fun σ => (σ.rowL .evt 15, rdWld σ 5, σ.tmI 12, σ.tmI 10, σ.tmI 11, asI (σ.ce 0 1))) ?_ ?_ ?_)) <;> cbv)
 all_goals try (with_reducible show _ ∧ _; (try simp only [and_true, true_and]))
 all_goals try (repeat' with_reducible refine And.intro ?_ ?_)
 all_goals try (with_reducible refine MeasB.mk ?_)
 all_goals first | (refine retK (h _ _ _ _ _ _ _ _ _ _ _ ?_) rfl; clear h) | (with_reducible refine Ob.mk ?_; clear h) | (clear h)
 all_goals (try simp only [eta0, RT.bytes] at *)
 all_goals (try dsimp only [RT.ty] at *)
 all_goals (try simp only [ncast] at *)
 all_goals (try have hw1 : IntKind.i64.wrap (i + 1) = i + 1 := wrap_id (by omega) (by omega))
 all_goals (try have hw2 : IntKind.i64.wrap (s - 1) = s - 1 := wrap_id (by omega) (by omega))
 all_goals (try have hff := hf w hq.2.2.2.2.2.2.2)
 all_goals (try simp only [hw1])
 all_goals (try simp only [hw2])
 all_goals (first | rfl | omega | exact ⟨trivial, by omega, by omega⟩ | (refine ⟨by omega, by (first | omega | exact .inr trivial), by (first | omega | rfl), by omega, by omega, by omega, by omega, ?_⟩; first | exact hz | exact hs w _ hq.2.2.2.2.2.2.2) | exact ⟨by omega, by omega, by omega, hq.2.2.2.2.2.2.2⟩)
theorem okBegin : SpecOk1 Tryz.prog 98 sBegin := spec1 tabOk (ss := [(29, sPick), (147, sWlkPut), (148, sWldNew), (12, sSWldStep)]) ⟨okPick, okSWlkPut, okSWldNew, okSWldStep, trivial⟩ rfl rfl <| by
 intro (bs : Th (List Int)) (p : Th Int) u K hb hp0 ho h
 obtain ⟨bs, rfl⟩ := th_ex bs; obtain ⟨p, rfl⟩ := th_ex p
 obtain ⟨hpre, h⟩ := h
 have hpre : 0 ≤ p ∧ p ≤ 980000000000 := hpre.out
 refine ⟨annL [(98, 4, ⟨Th (List Wlk) × Th Int × Th Int, [⟨.tmp 4 0, some 16, .wlk⟩], fun σ g => ((((σ.fgs [16]).t 5 (.one (.att (.int .i64 g.2.1)))).t 4 (vO 16 1)).h 16 (1, .row true 0 .wlk g.1)).cellC 0 1 (.att (.int .i64 g.2.2)),
   fun σ g _ => Ob (begC (asI (σ.ce 4 0)) (asI (σ.ce 4 1)) g.1 g.2.1 g.2.2 p), fun _ g _ => (g.2.1 ()).toNat⟩),
  (98, 9, ⟨Th Wld × Th Int × Th Int, [⟨.cell 7 2, none, .srv⟩, ⟨.cell 7 3, none, .sto⟩, ⟨.cell 7 4, none, .int⟩, ⟨.cell 7 5, none, .int⟩, ⟨.cell 7 6, none, .row⟩, ⟨.cell 7 7, none, .msg⟩, ⟨.cell 7 8, none, .note⟩], fun σ g => ((((St.kill σ [23810, 23811, 23812, 23813, 23814, 23815, 23816]).only [0, 2, 3, 6]).t 7 (.one (.att (.int .i64 g.2.1)))).cellsA 7 0 (encWld g.1)).cellC 0 1 (.att (.int .i64 g.2.2)),
   fun _ g _ => Ob fun _ => wldOk (g.1 ()) = true ∧ 0 ≤ g.2.1 () ∧ g.2.1 () ≤ 4 ∧ p ≤ g.2.2 () ∧ g.2.2 () ≤ p + 20 + 2 * g.2.1 (), fun _ g _ => (4 - g.2.1 ()).toNat⟩)], noAnn, 20, ?_⟩
 cbv
 repeat' first | ((with_reducible refine fun (g : Th (List Wlk) × Th Int × Th Int) => ?_); obtain ⟨l, k, q⟩ := g; obtain ⟨l, rfl⟩ := th_ex l; obtain ⟨k, rfl⟩ := th_ex k; obtain ⟨q, rfl⟩ := th_ex q; (with_reducible refine ImpB.out ?_); cbv; (with_reducible refine ImpB.mk ?_); intro hq; obtain ⟨hq⟩ := hq) | ((with_reducible refine fun (g : Th Wld × Th Int × Th Int) => ?_); obtain ⟨w, c, q⟩ := g; obtain ⟨w, rfl⟩ := th_ex w; obtain ⟨c, rfl⟩ := th_ex c; obtain ⟨q, rfl⟩ := th_ex q; (with_reducible refine ImpB.out ?_); cbv; (with_reducible refine ImpB.mk ?_); intro hq; obtain ⟨hq⟩ := hq) | ((with_reducible intro _); cbv) | (with_reducible refine And.intro ?_ ?_)
 all_goals try ((first | (with_reducible refine LoopIn.wf (fun σ => (σ.rowL .wlk 16, σ.tmI 5, asI (σ.ce 0 1))) ?_ ?_) | (with_reducible refine LoopBack.wf (fun σ => (σ.rowL .wlk 16, σ.tmI 5, asI (σ.ce 0 1))) ?_ ?_ ?_) | (with_reducible refine LoopIn.wf (fun σ => (rdWld σ 7, σ.tmI 7, asI (σ.ce 0 1))) ?_ ?_) | (with_reducible refine LoopBack.wf (fun σ => (rdWld σ 7, σ.tmI 7, asI (σ.ce 0 1))) ?_ ?_ ?_)) <;> cbv)
 all_goals try (with_reducible show _ ∧ _; (try simp only [and_true, true_and]))
 all_goals try (repeat' with_reducible refine And.intro ?_ ?_)
 all_goals try (with_reducible refine MeasB.mk ?_)
 all_goals first | (refine retK (h _ _ _ _ _ _ _ _ _ _ ?_) rfl; clear h) | (with_reducible refine Ob.mk ?_; clear h) | (clear h)
 all_goals (try simp only [eta0, RT.bytes] at *)
 all_goals (try simp only [begC] at *)
 all_goals (try dsimp only [RT.ty] at *)
 all_goals (try simp only [ncast] at *)
 all_goals (try (have hfew := wlk_few hq.2.1))
 all_goals (try (first | omega | rfl | exact ⟨by omega, by omega, hq.1⟩))
 ·rename_i x5 x4 ha x3 x2 hb1 x1 x0 hc
  have hw : IntKind.i64.wrap (1 + x1) = 1 + x1 := wrap_id (by omega) (by omega)
  rw [hw]
  exact ⟨beg_map ⟨ha.1, ha.2.1⟩ ⟨hb1.1, hb1.2.1⟩, by simp [wlkAll, allTo], by omega, by omega, by omega, by omega⟩
 ·rename_i x3 x2 ha x1 x0 hb1 hk
  have hw : IntKind.i64.wrap (k - 1) = k - 1 := wrap_id (by omega) (by omega)
  rw [hw]
  exact ⟨hq.1, beg_put hq.1 hq.2.1 hk (by omega) ⟨ha.1, ha.2.1⟩ ⟨hb1.1, hb1.2.1⟩, by omega, by omega, by omega, by omega⟩
 ·have hw : IntKind.i64.wrap (k - 1) = k - 1 := wrap_id (by omega) (by omega)
  rw [hw]
  omega
 ·rename_i x1 x0 hc hk
  have hw : IntKind.i64.wrap (1 + x1) = 1 + x1 := wrap_id (by omega) (by omega)
  exact ⟨@wldNew_ok ⟨_, _⟩ l (IntKind.i64.wrap (1 + x1)) hq.1 hq.2.1 (by rw [hw]; omega) (by rw [hw]; omega), by omega, by omega, by omega, by omega⟩
 ·refine ⟨stepOk _ (stepOk _ hq.1), ?_⟩
  grind [wrap_id]
 ·grind [wrap_id]
theorem okWorld : SpecOk1 Tryz.prog 56 sWorld := spec1 tabOk (ss := [(98, sBegin), (29, sPick), (97, sPlaysE)]) ⟨okBegin, okPick, okPlaysE, trivial⟩ rfl rfl <| by
 intro (bs : Th (List Int)) (p : Th Int) u K hb hp0 ho h
 obtain ⟨bs, rfl⟩ := th_ex bs; obtain ⟨p, rfl⟩ := th_ex p
 obtain ⟨hpre, h⟩ := h
 have hpre : 0 ≤ p ∧ p ≤ 970000000000 := hpre.out
 refine ⟨noAnn, noAnn, 20, ?_⟩
 cbv
 repeat' first | ((with_reducible intro _); cbv) | (with_reducible refine And.intro ?_ ?_)
 all_goals first | (refine retK (h _ _ _ _ _ _ _ _ _ _ ?_) rfl; clear h) | (with_reducible refine Ob.mk ?_; clear h) | (clear h)
 all_goals (try simp only [eta0, RT.bytes] at *)
 all_goals (try dsimp only [RT.ty] at *)
 all_goals (try simp only [ncast] at *)
 all_goals (first | rfl | omega | grind [wrap_id, ok_few, wP] | (rename_i xa xb xc xd xe xf xg xh xi xq hw y3 y2 hy y1 y0 hz; have hfew := ok_few hw.2.2; have hm := @many_in y1 y3 hz.1 (hz.2.1 (by omega)) hy.1 (hy.2.1 (by omega)); dsimp only at hfew; exact ⟨by omega, by omega, Int.le_trans hm (by decide), by omega, by omega⟩))
noncomputable def sBookE : Sx.Spec := ⟨true, false, [.int .i64], [nWld, [some .row]], fun _ p ⟨n, _⟩ => .asrt (fun _ => 0 ≤ p () ∧ p () ≤ 960000000000) (.all Int fun a => .all Int fun b => .all (List Srv) fun c => .all (List Sto) fun d => .all (List Int) fun e => .all (List Int) fun f => .all (List Row) fun g => .all (List Msg) fun h => .all (List Note) fun i => .all (List Row) fun r => .all Int fun q => .asm (fun _ => p () ≤ q ∧ q ≤ p () + 300000 ∧ wldOk ⟨⟨a, b⟩, c, d, ⟨e, f⟩, g, h, i⟩ = true ∧ r.length ≤ 10) (.ret (.tup [rWld a b c d e f g h i, .agg [.att (.list .row fun _ => r)]], fun _ => q)))⟩
theorem okBookE : SpecOk1 Tryz.prog 102 sBookE := spec1 tabOk (ss := [(56, sWorld), (80, sCloneB), (29, sPick), (151, sAnyOrder)]) ⟨okWorld, okL12Copy, okPick, okAnyOrder, trivial⟩ rfl rfl <| by
 intro (bs : Th (List Int)) (p : Th Int) ⟨(n : Th Int), u⟩ K hb hp0 ho h
 obtain ⟨n, rfl⟩ := th_ex n; obtain ⟨bs, rfl⟩ := th_ex bs; obtain ⟨p, rfl⟩ := th_ex p
 obtain ⟨hpre, h⟩ := h
 have hpre : 0 ≤ p ∧ p ≤ 960000000000 := hpre.out
 have hk : ∀ (a b : Int) (c : List Srv) (d : List Sto) (e f : List Int) (g : List Row) (h : List Msg) (i : List Note), wldOk ⟨⟨a, b⟩, c, d, ⟨e, f⟩, g, h, i⟩ = true → g.length ≤ 9 := fun a b c d e f g h i w => (ok_few w).1
 refine ⟨noAnn, noAnn, 20, ?_⟩
 cbv
 repeat' first | ((with_reducible intro _); cbv) | (with_reducible refine And.intro ?_ ?_)
 all_goals first | (refine retK (h _ _ _ _ _ _ _ _ _ _ _ ?_) rfl; clear h) | (with_reducible refine Ob.mk ?_; clear h) | (clear h)
 all_goals (try simp only [eta0, RT.bytes] at *)
 all_goals (try dsimp only [RT.ty] at *)
 all_goals (try simp only [ncast] at *)
 all_goals (first | rfl | omega | grind [List.length_set])
end Go.Proofs.YtjdaiobeiimpfaaGreat
