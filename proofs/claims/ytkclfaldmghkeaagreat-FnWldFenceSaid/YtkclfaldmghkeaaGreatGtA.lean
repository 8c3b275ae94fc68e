/-
  Contracts: a world at its beginning, and things that happen, drawn.
-/
import Derived.Test.YtkclfaldmghkeaaGreatGnX
import Derived.Test.YtkclfaldmghkeaaGreatM7
import Derived.Test.YtkclfaldmghkeaaGreatGsS
import Derived.Test.YtkclfaldmghkeaaGreatGnS
import Derived.Test.YtkclfaldmghkeaaGreatGnW
import Derived.Test.YtkclfaldmghkeaaGreatGnT
set_option linter.unusedVariables false
set_option linter.unusedSimpArgs false
set_option maxRecDepth 100000
set_option maxHeartbeats 8000000
namespace Go.Mo
open Go.Sx
def begC2 (a b : Th Int) (l : Th (List Wlk)) (k q : Th Int) (p : Int) : Th Prop := fun _ => o8 ⟨a (), b ()⟩ = true ∧ z6 ⟨a (), b ()⟩ (l ()) = true ∧ 0 ≤ k () ∧ k () ≤ 5 ∧ p ≤ q () ∧ q () ≤ p + 3 + 2 * (5 - k ()) ∧ (∀ v ∈ l (), v.seq = 0 ∧ v.last = 0) ∧ (l ()).length + k () ≤ 5
theorem c2i {l : List Wlk} {k x y : Int} (h : ∀ v ∈ l, v.seq = 0 ∧ v.last = 0) : ∀ v ∈ J5 l ⟨k, x, y, 0, 0⟩, v.seq = 0 ∧ v.last = 0 := fun v hv => by
 rcases b3m hv with hx | rfl
 ·exact h v hx
 ·exact ⟨rfl, rfl⟩
end Go.Mo
namespace Go.Proofs.YtkclfaldmghkeaaGreat
open Go.Sx Go.Proofs Go.Mo
noncomputable def c0c : Sx.Spec := ⟨true, false, [], [nWld], fun _ p _ => .asrt (fun _ => 0 ≤ p () ∧ p () ≤ 980000000000) (.all Int fun a => .all Int fun b => .all (List Srv) fun c => .all (List Sto) fun d => .all (List Int) fun e => .all (List Int) fun f => .all (List Row) fun g => .all (List Msg) fun h => .all (List Note) fun i => .all Int fun q => .asm (fun _ => p () ≤ q ∧ q ≤ p () + 100 ∧ BegE ⟨⟨a, b⟩, c, d, ⟨e, f⟩, g, h, i⟩) (.ret (rWld a b c d e f g h i, fun _ => q)))⟩
theorem okBeginB : b8 Tryz.prog 25 c0c := j6 j4 (ss := [(27, a4n), (66, a0S), (67, b9K), (23, a3R)]) ⟨a2q, a7m, c2C, a4L, trivial⟩ rfl rfl <| by
 intro (bs : Th (List Int)) (p : Th Int) u K hb hp0 ho h
 obtain ⟨bs, rfl⟩ := b6 bs; obtain ⟨p, rfl⟩ := b6 p
 obtain ⟨hpre, h⟩ := h
 have hpre : 0 ≤ p ∧ p ≤ 980000000000 := hpre.out
 refine ⟨annL [(25, 4, ⟨Th (List Wlk) × Th Int × Th Int, [⟨.tmp 4 0, some 16, .wlk⟩], fun σ g => ((((σ.fgs [16]).t 5 (.one (.att (.int .i64 g.2.1)))).t 4 (vO 16 1)).h 16 (1, .row true 0 .wlk g.1)).F5 0 1 (.att (.int .i64 g.2.2)),
   fun σ g _ => Ob (begC2 (asI (σ.ce 4 0)) (asI (σ.ce 4 1)) g.1 g.2.1 g.2.2 p), fun _ g _ => (g.2.1 ()).toNat⟩),
  (25, 9, ⟨Th Wld × Th Int × Th Int, [⟨.cell 7 2, none, .srv⟩, ⟨.cell 7 3, none, .sto⟩, ⟨.cell 7 4, none, .int⟩, ⟨.cell 7 5, none, .int⟩, ⟨.cell 7 6, none, .row⟩, ⟨.cell 7 7, none, .msg⟩, ⟨.cell 7 8, none, .note⟩], fun σ g => ((((St.kill σ [23810, 23811, 23812, 23813, 23814, 23815, 23816]).only [0, 2, 3, 6]).t 7 (.one (.att (.int .i64 g.2.1)))).a5b 7 0 (Z7 g.1)).F5 0 1 (.att (.int .i64 g.2.2)),
   fun _ g _ => Ob fun _ => BegE (g.1 ()) ∧ 0 ≤ g.2.1 () ∧ g.2.1 () ≤ 4 ∧ p ≤ g.2.2 () ∧ g.2.2 () ≤ p + 20 + 2 * g.2.1 (), fun _ g _ => (4 - g.2.1 ()).toNat⟩)], noAnn, 20, ?_⟩
 cbv
 repeat' first | ((with_reducible refine fun (g : Th (List Wlk) × Th Int × Th Int) => ?_); obtain ⟨l, k, q⟩ := g; obtain ⟨l, rfl⟩ := b6 l; obtain ⟨k, rfl⟩ := b6 k; obtain ⟨q, rfl⟩ := b6 q; (with_reducible refine ImpB.out ?_); cbv; (with_reducible refine ImpB.mk ?_); intro hq; obtain ⟨hq⟩ := hq) | ((with_reducible refine fun (g : Th Wld × Th Int × Th Int) => ?_); obtain ⟨w, c, q⟩ := g; obtain ⟨w, rfl⟩ := b6 w; obtain ⟨c, rfl⟩ := b6 c; obtain ⟨q, rfl⟩ := b6 q; (with_reducible refine ImpB.out ?_); cbv; (with_reducible refine ImpB.mk ?_); intro hq; obtain ⟨hq⟩ := hq) | ((with_reducible intro _); cbv) | (with_reducible refine And.intro ?_ ?_)
 all_goals try ((first | (with_reducible refine LoopIn.wf (fun σ => (σ.rowL .wlk 16, σ.tmI 5, asI (σ.ce 0 1))) ?_ ?_) | (with_reducible refine LoopBack.wf (fun σ => (σ.rowL .wlk 16, σ.tmI 5, asI (σ.ce 0 1))) ?_ ?_ ?_) | (with_reducible refine LoopIn.wf (fun σ => (Q2 σ 7, σ.tmI 7, asI (σ.ce 0 1))) ?_ ?_) | (with_reducible refine LoopBack.wf (fun σ => (Q2 σ 7, σ.tmI 7, asI (σ.ce 0 1))) ?_ ?_ ?_)) <;> cbv)
 all_goals try (with_reducible show _ ∧ _; (try simp only [and_true, true_and]))
 all_goals try (repeat' with_reducible refine And.intro ?_ ?_)
 all_goals try (with_reducible refine MeasB.mk ?_)
 all_goals first | (refine retK (h _ _ _ _ _ _ _ _ _ _ ?_) rfl; clear h) | (with_reducible refine Ob.mk ?_; clear h) | (clear h)
 all_goals (try simp only [eta0, RT.bytes] at *)
 all_goals (try simp only [begC2] at *)
 all_goals (try dsimp only [RT.ty] at *)
 all_goals (try simp only [a1a] at *)
 all_goals (try (have hfew := b9s hq.2.1))
 all_goals (try (first | omega | rfl | exact ⟨by omega, by omega, hq.1⟩))
 ·rename_i x5 x4 ha x3 x2 hb1 x1 x0 hc
  have hw : IntKind.i64.wrap (1 + x1) = 1 + x1 := b9 (by omega) (by omega)
  rw [hw]
  exact ⟨beg_map ⟨ha.1, ha.2.1⟩ ⟨hb1.1, hb1.2.1⟩, by simp [z6, m4], by omega, by omega, by omega, by omega, (by intro v hv; cases hv), by simp only [List.length_nil]; omega⟩
 ·rename_i x3 x2 ha x1 x0 hb1 hk
  have hw : IntKind.i64.wrap (k - 1) = k - 1 := b9 (by omega) (by omega)
  rw [hw]
  have hpl := a8P l ⟨k, x3, nth .int [0, 3, 10, 40, 95, 99] x1.toNat, 0, 0⟩
  exact ⟨hq.1, beg_put hq.1 hq.2.1 hk (by omega) ⟨ha.1, ha.2.1⟩ ⟨hb1.1, hb1.2.1⟩, by omega, by omega, by omega, by omega, c2i hq.2.2.2.2.2.2.1, by omega⟩
 ·have hw : IntKind.i64.wrap (k - 1) = k - 1 := b9 (by omega) (by omega)
  rw [hw]
  omega
 ·rename_i x1 x0 hc hk
  have hw : IntKind.i64.wrap (1 + x1) = 1 + x1 := b9 (by omega) (by omega)
  exact ⟨⟨l, @beg_new ⟨_, _⟩ l (IntKind.i64.wrap (1 + x1)) hq.1 hq.2.1 (by rw [hw]; omega) (by rw [hw]; omega) hq.2.2.2.2.2.2.1 (by omega)⟩, by omega, by omega, by omega, by omega⟩
 ·refine ⟨begE_step hq.1 _ _, ?_⟩
  grind [b9]
 ·grind [b9]
noncomputable def a1H : Sx.Spec := ⟨false, false, [.list .byte], [nWld, [some .evt]], fun _ _ _ => .all Int fun a => .all Int fun b => .all (List Srv) fun c => .all (List Sto) fun d => .all (List Int) fun e => .all (List Int) fun f => .all (List Row) fun g => .all (List Msg) fun h => .all (List Note) fun i => .all (List Evt) fun l => .asm (fun _ => BegE ⟨⟨a, b⟩, c, d, ⟨e, f⟩, g, h, i⟩ ∧ l.length ≤ 149) (.ret (.tup [rWld a b c d e f g h i, vL .evt fun _ => l], fun _ => 0))⟩
theorem a1N : b8 Tryz.prog 8 a1H := j6 j4 (ss := [(25, c0c), (27, a4n), (26, b9O)]) ⟨okBeginB, a2q, okPlaysE, trivial⟩ rfl rfl <| by
 intro (bs : Th (List Int)) (p : Th Int) ⟨(l : Th (List Int)), u⟩ K hb hp0 ho h
 obtain ⟨l, rfl⟩ := b6 l
 have hk : ∀ w : Wld, BegE w → w.rows.length ≤ 9 ∧ w.stores.length ≤ 4 := fun w h => ⟨(b3B (a2C h)).1, (b3B (a2C h)).2.1⟩
 refine ⟨noAnn, noAnn, 20, ?_⟩
 cbv
 repeat' first | ((with_reducible intro _); cbv) | (with_reducible refine And.intro ?_ ?_)
 all_goals first | (refine retK (h _ _ _ _ _ _ _ _ _ _ ?_) rfl; clear h) | (refine retK (h _ _ _ _ _ _ _ _ _ _ ?_) rfl) | (with_reducible refine Ob.mk ?_; clear h) | (clear h)
 all_goals (try simp only [eta0, RT.bytes] at *)
 all_goals (try dsimp only [RT.ty] at *)
 all_goals (try simp only [a1a] at *)
 all_goals (first | rfl | omega | grind [b9])
theorem b7U {w x : Wld} {l : List Evt} {i : Int} (hl : l.length ≤ 1000) (h0 : 0 ≤ i) (h1 : i < l.length) (hx : x = a0h w l i.toNat) : 0 ≤ IntKind.i64.wrap (i + 1) ∧ IntKind.i64.wrap (i + 1) ≤ l.length ∧ m0 x (nth .evt l i.toNat) = a0h w l (IntKind.i64.wrap (i + 1)).toNat := by
 have hw : IntKind.i64.wrap (i + 1) = i + 1 := b9 (by omega) (by omega)
 rw [hw, show (i + 1).toNat = i.toNat + 1 by omega, a5I (by omega), hx]
 exact ⟨by omega, by omega, rfl⟩
noncomputable def a8A : Sx.Spec := ⟨false, false, [.row .wld, .list .evt], [nWld], fun _ _ ⟨w, l, _⟩ => .asrt (fun _ => (l ()).length ≤ 1000) (.ret (rAs (Z7 fun _ => J8 (w ()) (l ())), fun _ => 0))⟩
theorem b8j : b8 Tryz.prog 10 a8A := j6 j4 (ss := [(16, a3O)]) ⟨a7l, trivial⟩ rfl rfl <| by
 intro (bs : Th (List Int)) (p : Th Int) ⟨(w : Th Wld), (l : Th (List Evt)), u⟩ K _ _ ho h
 obtain ⟨w, rfl⟩ := b6 w; obtain ⟨l, rfl⟩ := b6 l
 obtain ⟨hpre, h⟩ := h
 have hpre : l.length ≤ 1000 := hpre.out
 refine ⟨annL [(10, 2, ⟨Th Wld × Th Int, [], fun σ g => ((σ.only [1, 2, 4]).t 5 (.one (.att (.int .i64 g.2)))).a5b 3 0 (Z7 g.1), fun σ g _ => Ob fun _ => 0 ≤ g.2 () ∧ g.2 () ≤ l.length ∧ g.1 () = a0h w l (g.2 ()).toNat, fun _ g _ => (1001 - g.2 ()).toNat⟩)], noAnn, 20, ?_⟩
 cbv
 repeat' first | ((with_reducible refine fun (g : Th Wld × Th Int) => ?_); obtain ⟨x, i⟩ := g; obtain ⟨x, rfl⟩ := b6 x; obtain ⟨i, rfl⟩ := b6 i; (with_reducible refine ImpB.out ?_); cbv; (with_reducible refine ImpB.mk ?_); intro hq; obtain ⟨hq⟩ := hq) | ((with_reducible intro _); cbv) | (with_reducible refine And.intro ?_ ?_)
 all_goals try ((first | (with_reducible refine LoopIn.wf (fun σ => (Q2 σ 3, σ.tmI 5)) ?_ ?_) | (with_reducible refine LoopBack.wf (fun σ => (Q2 σ 3, σ.tmI 5)) ?_ ?_ ?_)) <;> cbv)
 all_goals try (with_reducible show _ ∧ _; (try simp only [and_true, true_and]))
 all_goals try (repeat' with_reducible refine And.intro ?_ ?_)
 all_goals try (with_reducible refine MeasB.mk ?_)
 all_goals first | (refine retK h ?_; clear h; simp only [fin0]) | (with_reducible refine Ob.mk ?_; clear h) | (clear h)
 all_goals (try simp only [eta0, RT.bytes] at *)
 all_goals (try dsimp only [RT.ty] at *)
 all_goals (try simp only [a1a] at *)
 all_goals (try simp only [a9N] at *)
 all_goals (first | omega | exact ⟨by omega, by omega, rfl⟩ | exact b7U hpre hq.1 (by assumption) hq.2.2 | grind [j3, b9, b3p, a5I, b5D])
end Go.Proofs.YtkclfaldmghkeaaGreat
