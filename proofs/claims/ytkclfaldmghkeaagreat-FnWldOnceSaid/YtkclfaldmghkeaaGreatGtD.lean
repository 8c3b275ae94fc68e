/-
  Contracts: a world at its beginning, and things that happen, drawn.
-/
import Derived.Test.YtkclfaldmghkeaaGreatGnX
import Derived.Test.YtkclfaldmghkeaaGreatM7
import Derived.Test.YtkclfaldmghkeaaGreatGsS
import Derived.Test.YtkclfaldmghkeaaGreatGnS
import Derived.Test.YtkclfaldmghkeaaGreatGnW
import Derived.Test.YtkclfaldmghkeaaGreatGnT
import Derived.Test.YtkclfaldmghkeaaGreatFnIc
set_option linter.unusedVariables false
set_option linter.unusedSimpArgs false
set_option maxRecDepth 100000
set_option maxHeartbeats 8000000
namespace Go.Mo
open Go.Sx
def begC2 (a b : Th Int) (l : Th (List Wlk)) (k q : Th Int) (p : Int) : Th Prop := fun _ => n8 ⟨a (), b ()⟩ = true ∧ y7 ⟨a (), b ()⟩ (l ()) = true ∧ 0 ≤ k () ∧ k () ≤ 5 ∧ p ≤ q () ∧ q () ≤ p + 3 + 2 * (5 - k ()) ∧ (∀ v ∈ l (), v.seq = 0 ∧ v.last = 0) ∧ (l ()).length + k () ≤ 5
theorem c1m {l : List Wlk} {k x y : Int} (h : ∀ v ∈ l, v.seq = 0 ∧ v.last = 0) : ∀ v ∈ I7 l ⟨k, x, y, 0, 0⟩, v.seq = 0 ∧ v.last = 0 := fun v hv => by
 rcases b2z hv with hx | rfl
 ·exact h v hx
 ·exact ⟨rfl, rfl⟩
end Go.Mo
namespace Go.Proofs.YtkclfaldmghkeaaGreat
open Go.Sx Go.Proofs Go.Mo
noncomputable def b9f : Sx.Spec := ⟨true, false, [], [nWld], fun _ p _ => .asrt (fun _ => 0 ≤ p () ∧ p () ≤ 980000000000) (.all Int fun a => .all Int fun b => .all (List Srv) fun c => .all (List Sto) fun d => .all (List Int) fun e => .all (List Int) fun f => .all (List Row) fun g => .all (List Msg) fun h => .all (List Note) fun i => .all Int fun q => .asm (fun _ => p () ≤ q ∧ q ≤ p () + 100 ∧ BegE ⟨⟨a, b⟩, c, d, ⟨e, f⟩, g, h, i⟩) (.ret (rWld a b c d e f g h i, fun _ => q)))⟩
theorem c4N : b7 Tryz.prog 25 b9f := j8 j3 (ss := [(27, a3N), (66, a0x), (67, b8N), (23, a6y)]) ⟨a1S, a6K, c1G, a8V, trivial⟩ rfl rfl <| by
 intro (bs : Th (List Int)) (p : Th Int) u K hb hp0 ho h
 obtain ⟨bs, rfl⟩ := a8 bs; obtain ⟨p, rfl⟩ := a8 p
 obtain ⟨hpre, h⟩ := h
 have hpre : 0 ≤ p ∧ p ≤ 980000000000 := hpre.out
 refine ⟨annL [(25, 4, ⟨Th (List Wlk) × Th Int × Th Int, [⟨.tmp 4 0, some 16, .wlk⟩], fun σ g => ((((σ.fgs [16]).t 5 (.one (.att (.int .i64 g.2.1)))).t 4 (vO 16 1)).h 16 (1, .row true 0 .wlk g.1)).E7 0 1 (.att (.int .i64 g.2.2)),
   fun σ g _ => Ob (begC2 (asI (σ.ce 4 0)) (asI (σ.ce 4 1)) g.1 g.2.1 g.2.2 p), fun _ g _ => (g.2.1 ()).toNat⟩),
  (25, 9, ⟨Th Wld × Th Int × Th Int, [⟨.cell 7 2, none, .srv⟩, ⟨.cell 7 3, none, .sto⟩, ⟨.cell 7 4, none, .int⟩, ⟨.cell 7 5, none, .int⟩, ⟨.cell 7 6, none, .row⟩, ⟨.cell 7 7, none, .msg⟩, ⟨.cell 7 8, none, .note⟩], fun σ g => ((((St.kill σ [23810, 23811, 23812, 23813, 23814, 23815, 23816]).only [0, 2, 3, 6]).t 7 (.one (.att (.int .i64 g.2.1)))).b0d 7 0 (a0Y g.1)).E7 0 1 (.att (.int .i64 g.2.2)),
   fun _ g _ => Ob fun _ => BegE (g.1 ()) ∧ 0 ≤ g.2.1 () ∧ g.2.1 () ≤ 4 ∧ p ≤ g.2.2 () ∧ g.2.2 () ≤ p + 20 + 2 * g.2.1 (), fun _ g _ => (4 - g.2.1 ()).toNat⟩)], noAnn, 20, ?_⟩
 cbv
 repeat' first | ((with_reducible refine fun (g : Th (List Wlk) × Th Int × Th Int) => ?_); obtain ⟨l, k, q⟩ := g; obtain ⟨l, rfl⟩ := a8 l; obtain ⟨k, rfl⟩ := a8 k; obtain ⟨q, rfl⟩ := a8 q; (with_reducible refine ImpB.out ?_); cbv; (with_reducible refine ImpB.mk ?_); intro hq; obtain ⟨hq⟩ := hq) | ((with_reducible refine fun (g : Th Wld × Th Int × Th Int) => ?_); obtain ⟨w, c, q⟩ := g; obtain ⟨w, rfl⟩ := a8 w; obtain ⟨c, rfl⟩ := a8 c; obtain ⟨q, rfl⟩ := a8 q; (with_reducible refine ImpB.out ?_); cbv; (with_reducible refine ImpB.mk ?_); intro hq; obtain ⟨hq⟩ := hq) | ((with_reducible intro _); cbv) | (with_reducible refine And.intro ?_ ?_)
 all_goals try ((first | (with_reducible refine LoopIn.wf (fun σ => (σ.rowL .wlk 16, σ.tmI 5, asI (σ.ce 0 1))) ?_ ?_) | (with_reducible refine LoopBack.wf (fun σ => (σ.rowL .wlk 16, σ.tmI 5, asI (σ.ce 0 1))) ?_ ?_ ?_) | (with_reducible refine LoopIn.wf (fun σ => (a5b σ 7, σ.tmI 7, asI (σ.ce 0 1))) ?_ ?_) | (with_reducible refine LoopBack.wf (fun σ => (a5b σ 7, σ.tmI 7, asI (σ.ce 0 1))) ?_ ?_ ?_)) <;> cbv)
 all_goals try (with_reducible show _ ∧ _; (try simp only [and_true, true_and]))
 all_goals try (repeat' with_reducible refine And.intro ?_ ?_)
 all_goals try (with_reducible refine MeasB.mk ?_)
 all_goals first | (refine retK (h _ _ _ _ _ _ _ _ _ _ ?_) rfl; clear h) | (with_reducible refine Ob.mk ?_; clear h) | (clear h)
 all_goals (try simp only [eta0, RT.bytes] at *)
 all_goals (try simp only [begC2] at *)
 all_goals (try dsimp only [RT.ty] at *)
 all_goals (try simp only [a3U] at *)
 all_goals (try (have hfew := b8u hq.2.1))
 all_goals (try (first | omega | rfl | exact ⟨by omega, by omega, hq.1⟩))
 ·rename_i x5 x4 ha x3 x2 hb1 x1 x0 hc
  have hw : IntKind.i64.wrap (1 + x1) = 1 + x1 := e8 (by omega) (by omega)
  rw [hw]
  exact ⟨c8p ⟨ha.1, ha.2.1⟩ ⟨hb1.1, hb1.2.1⟩, by simp [y7, l8], by omega, by omega, by omega, by omega, (by intro v hv; cases hv), by simp only [List.length_nil]; omega⟩
 ·rename_i x3 x2 ha x1 x0 hb1 hk
  have hw : IntKind.i64.wrap (k - 1) = k - 1 := e8 (by omega) (by omega)
  rw [hw]
  have hpl := a8n l ⟨k, x3, nth .int [0, 3, 10, 40, 95, 99] x1.toNat, 0, 0⟩
  exact ⟨hq.1, c8n hq.1 hq.2.1 hk (by omega) ⟨ha.1, ha.2.1⟩ ⟨hb1.1, hb1.2.1⟩, by omega, by omega, by omega, by omega, c1m hq.2.2.2.2.2.2.1, by omega⟩
 ·have hw : IntKind.i64.wrap (k - 1) = k - 1 := e8 (by omega) (by omega)
  rw [hw]
  omega
 ·rename_i x1 x0 hc hk
  have hw : IntKind.i64.wrap (1 + x1) = 1 + x1 := e8 (by omega) (by omega)
  exact ⟨⟨l, @c8o ⟨_, _⟩ l (IntKind.i64.wrap (1 + x1)) hq.1 hq.2.1 (by rw [hw]; omega) (by rw [hw]; omega) hq.2.2.2.2.2.2.1 (by omega)⟩, by omega, by omega, by omega, by omega⟩
 ·refine ⟨c3e hq.1 _ _, ?_⟩
  grind [e8]
 ·grind [e8]
noncomputable def b4v : Sx.Spec := ⟨false, false, [.list .byte], [nWld, [some .evt]], fun _ _ _ => .all Int fun a => .all Int fun b => .all (List Srv) fun c => .all (List Sto) fun d => .all (List Int) fun e => .all (List Int) fun f => .all (List Row) fun g => .all (List Msg) fun h => .all (List Note) fun i => .all (List Evt) fun l => .asm (fun _ => BegE ⟨⟨a, b⟩, c, d, ⟨e, f⟩, g, h, i⟩ ∧ l.length ≤ 149) (.ret (.tup [rWld a b c d e f g h i, vL .evt fun _ => l], fun _ => 0))⟩
theorem c1W : b7 Tryz.prog 8 b4v := j8 j3 (ss := [(25, b9f), (27, a3N), (26, b8S)]) ⟨c4N, a1S, c4w, trivial⟩ rfl rfl <| by
 intro (bs : Th (List Int)) (p : Th Int) ⟨(l : Th (List Int)), u⟩ K hb hp0 ho h
 obtain ⟨l, rfl⟩ := a8 l
 have hk : ∀ w : Wld, BegE w → w.rows.length ≤ 9 ∧ w.stores.length ≤ 4 := fun w h => ⟨(b7k (b3C h)).1, (b7k (b3C h)).2.1⟩
 refine ⟨noAnn, noAnn, 20, ?_⟩
 cbv
 repeat' first | ((with_reducible intro _); cbv) | (with_reducible refine And.intro ?_ ?_)
 all_goals first | (refine retK (h _ _ _ _ _ _ _ _ _ _ ?_) rfl; clear h) | (refine retK (h _ _ _ _ _ _ _ _ _ _ ?_) rfl) | (with_reducible refine Ob.mk ?_; clear h) | (clear h)
 all_goals (try simp only [eta0, RT.bytes] at *)
 all_goals (try dsimp only [RT.ty] at *)
 all_goals (try simp only [a3U] at *)
 all_goals (first | rfl | omega | grind [e8])
theorem b7b {w x : Wld} {l : List Evt} {i : Int} (hl : l.length ≤ 1000) (h0 : 0 ≤ i) (h1 : i < l.length) (hx : x = Z0 w l i.toNat) : 0 ≤ IntKind.i64.wrap (i + 1) ∧ IntKind.i64.wrap (i + 1) ≤ l.length ∧ m5 x (nth .evt l i.toNat) = Z0 w l (IntKind.i64.wrap (i + 1)).toNat := by
 have hw : IntKind.i64.wrap (i + 1) = i + 1 := e8 (by omega) (by omega)
 rw [hw, show (i + 1).toNat = i.toNat + 1 by omega, a5h (by omega), hx]
 exact ⟨by omega, by omega, rfl⟩
noncomputable def b8R : Sx.Spec := ⟨false, false, [.row .wld, .list .evt], [nWld], fun _ _ ⟨w, l, _⟩ => .asrt (fun _ => (l ()).length ≤ 1000) (.ret (rAs (a0Y fun _ => a5i (w ()) (l ())), fun _ => 0))⟩
theorem okPlay : b7 Tryz.prog 10 b8R := j8 j3 (ss := [(16, b0Q)]) ⟨c1E, trivial⟩ rfl rfl <| by
 intro (bs : Th (List Int)) (p : Th Int) ⟨(w : Th Wld), (l : Th (List Evt)), u⟩ K _ _ ho h
 obtain ⟨w, rfl⟩ := a8 w; obtain ⟨l, rfl⟩ := a8 l
 obtain ⟨hpre, h⟩ := h
 have hpre : l.length ≤ 1000 := hpre.out
 refine ⟨annL [(10, 2, ⟨Th Wld × Th Int, [], fun σ g => ((σ.only [1, 2, 4]).t 5 (.one (.att (.int .i64 g.2)))).b0d 3 0 (a0Y g.1), fun σ g _ => Ob fun _ => 0 ≤ g.2 () ∧ g.2 () ≤ l.length ∧ g.1 () = Z0 w l (g.2 ()).toNat, fun _ g _ => (1001 - g.2 ()).toNat⟩)], noAnn, 20, ?_⟩
 cbv
 repeat' first | ((with_reducible refine fun (g : Th Wld × Th Int) => ?_); obtain ⟨x, i⟩ := g; obtain ⟨x, rfl⟩ := a8 x; obtain ⟨i, rfl⟩ := a8 i; (with_reducible refine ImpB.out ?_); cbv; (with_reducible refine ImpB.mk ?_); intro hq; obtain ⟨hq⟩ := hq) | ((with_reducible intro _); cbv) | (with_reducible refine And.intro ?_ ?_)
 all_goals try ((first | (with_reducible refine LoopIn.wf (fun σ => (a5b σ 3, σ.tmI 5)) ?_ ?_) | (with_reducible refine LoopBack.wf (fun σ => (a5b σ 3, σ.tmI 5)) ?_ ?_ ?_)) <;> cbv)
 all_goals try (with_reducible show _ ∧ _; (try simp only [and_true, true_and]))
 all_goals try (repeat' with_reducible refine And.intro ?_ ?_)
 all_goals try (with_reducible refine MeasB.mk ?_)
 all_goals first | (refine retK h ?_; clear h; simp only [fin0]) | (with_reducible refine Ob.mk ?_; clear h) | (clear h)
 all_goals (try simp only [eta0, RT.bytes] at *)
 all_goals (try dsimp only [RT.ty] at *)
 all_goals (try simp only [a3U] at *)
 all_goals (try simp only [c5d] at *)
 all_goals (first | omega | exact ⟨by omega, by omega, rfl⟩ | exact b7b hpre hq.1 (by assumption) hq.2.2 | grind [j5, e8, b2C, a5h, b4M])
noncomputable def a3p : Sx.Spec := ⟨false, true, [.row .wld, .int .i64, .int .i64], [], fun _ _ ⟨w, a, b, _⟩ => .ret (vI fun _ => (O9 (w ()) (a ()) (b ()) : Int), fun _ => 0)⟩
theorem a9X {w : Wld} {a b : Int} {i : Int} (hok : p9 w = true) (h0 : 0 ≤ i) (h1 : i < w.stores.length) (c : Int) (hc : c = (cntW w.stores a b i.toNat : Int)) :
  0 ≤ IntKind.i64.wrap (i + 1) ∧ IntKind.i64.wrap (i + 1) ≤ w.stores.length ∧ IntKind.i64.wrap (c + S4 (nth .sto w.stores i.toNat).recs a b) = (cntW w.stores a b (IntKind.i64.wrap (i + 1)).toNat : Int) := by
 have hf := Y7 hok
 have hw : IntKind.i64.wrap (i + 1) = i + 1 := e8 (by omega) (by omega)
 have h2 := c0A (st := w.stores) (who := a) (seq := b) (fun c hc => (hf.2.2 c hc).2) (k := i.toNat + 1) (by omega)
 have h3 := c2U w.stores a b i.toNat
 rw [hw, show (i + 1).toNat = i.toNat + 1 by omega, h3, hc]
 refine ⟨by omega, by omega, ?_⟩
 rw [e8 (by omega) (by omega)]
 omega
theorem b1O {w : Wld} {a b i : Int} (hok : p9 w = true) (h1 : ¬ i < (w.stores.length : Int)) (h2 : i ≤ (w.stores.length : Int)) : (cntW w.stores a b i.toNat : Int) = (O9 w a b : Int) := by
 rw [O9, if_pos hok, show i.toNat = w.stores.length by omega]
theorem b1P {w : Wld} {a b : Int} (h : p9 w = false) : (0 : Int) = (O9 w a b : Int) := by simp [O9, h]
theorem b5a : b7 Tryz.prog 20 a3p := j8 j3 (ss := [(28, a2B), (57, a3r)]) ⟨a8W, b5e, trivial⟩ rfl rfl <| by
 intro (bs : Th (List Int)) (p : Th Int) ⟨(w : Th Wld), (a : Th Int), (b : Th Int), u⟩ K _ _ ho h
 obtain ⟨w, rfl⟩ := a8 w; obtain ⟨a, rfl⟩ := a8 a; obtain ⟨b, rfl⟩ := a8 b
 refine ⟨annL [(20, 5, ⟨Th Int × Th Int, [], fun σ g => ((σ.only [1, 2, 3]).t 8 (.one (.att (.int .i64 g.1)))).t 7 (.one (.att (.int .i64 g.2))), fun σ g _ => Ob fun _ => 0 ≤ g.1 () ∧ g.1 () ≤ w.stores.length ∧ g.2 () = (cntW w.stores a b (g.1 ()).toNat : Int) ∧ p9 w = true, fun _ g _ => (10 - g.1 ()).toNat⟩)], noAnn, 20, ?_⟩
 cbv
 repeat' first | ((with_reducible refine fun (g : Th Int × Th Int) => ?_); obtain ⟨i, c⟩ := g; obtain ⟨i, rfl⟩ := a8 i; obtain ⟨c, rfl⟩ := a8 c; (with_reducible refine ImpB.out ?_); cbv; (with_reducible refine ImpB.mk ?_); intro hq; obtain ⟨hq⟩ := hq) | ((with_reducible intro _); cbv) | (with_reducible refine And.intro ?_ ?_)
 all_goals try ((first | (with_reducible refine LoopIn.wf (fun σ => (σ.tmI 8, σ.tmI 7)) ?_ ?_) | (with_reducible refine LoopBack.wf (fun σ => (σ.tmI 8, σ.tmI 7)) ?_ ?_ ?_)) <;> cbv)
 all_goals try (with_reducible show _ ∧ _; (try simp only [and_true, true_and]))
 all_goals try (repeat' with_reducible refine And.intro ?_ ?_)
 all_goals try (with_reducible refine MeasB.mk ?_)
 all_goals first | (refine retK h ?_; clear h; simp only [fin0]) | (with_reducible refine Ob.mk ?_; clear h) | (clear h)
 all_goals (try simp only [eta0, RT.bytes] at *)
 all_goals (try dsimp only [RT.ty] at *)
 all_goals (try simp only [a3U] at *)
 all_goals (try have hf := Y7 (by first | exact hq.2.2.2 | assumption : p9 w = true))
 all_goals first | omega | exact ⟨by omega, by omega, rfl, by assumption⟩ | exact b1P (by assumption) | (have hb := a9X hq.2.2.2 hq.1 (by assumption) _ hq.2.2.1; exact ⟨hb.1, hb.2.1, hb.2.2, hq.2.2.2⟩) | (rw [hq.2.2.1]; exact b1O hq.2.2.2 (by assumption) hq.2.1) | grind [e8]
theorem b7l : b7 Tryz.prog 19 a3p := j8 j3 (ss := [(11, a2B), (56, a3r)]) ⟨b2O, b7r, trivial⟩ rfl rfl <| by
 intro (bs : Th (List Int)) (p : Th Int) ⟨(w : Th Wld), (a : Th Int), (b : Th Int), u⟩ K _ _ ho h
 obtain ⟨w, rfl⟩ := a8 w; obtain ⟨a, rfl⟩ := a8 a; obtain ⟨b, rfl⟩ := a8 b
 refine ⟨annL [(19, 5, ⟨Th Int × Th Int, [], fun σ g => ((σ.only [1, 2, 3, 14, 15]).t 16 (.one (.att (.int .i64 g.1)))).t 7 (.one (.att (.int .i64 g.2))), fun σ g _ => Ob fun _ => 0 ≤ g.1 () ∧ g.1 () ≤ w.stores.length ∧ g.2 () = (cntW w.stores a b (g.1 ()).toNat : Int) ∧ p9 w = true, fun _ g _ => (10 - g.1 ()).toNat⟩)], noAnn, 20, ?_⟩
 cbv
 repeat' first | ((with_reducible refine fun (g : Th Int × Th Int) => ?_); obtain ⟨i, c⟩ := g; obtain ⟨i, rfl⟩ := a8 i; obtain ⟨c, rfl⟩ := a8 c; (with_reducible refine ImpB.out ?_); cbv; (with_reducible refine ImpB.mk ?_); intro hq; obtain ⟨hq⟩ := hq) | ((with_reducible intro _); cbv) | (with_reducible refine And.intro ?_ ?_)
 all_goals try ((first | (with_reducible refine LoopIn.wf (fun σ => (σ.tmI 16, σ.tmI 7)) ?_ ?_) | (with_reducible refine LoopBack.wf (fun σ => (σ.tmI 16, σ.tmI 7)) ?_ ?_ ?_)) <;> cbv)
 all_goals try (with_reducible show _ ∧ _; (try simp only [and_true, true_and]))
 all_goals try (repeat' with_reducible refine And.intro ?_ ?_)
 all_goals try (with_reducible refine MeasB.mk ?_)
 all_goals first | (refine retK h ?_; clear h; simp only [fin0]) | (with_reducible refine Ob.mk ?_; clear h) | (clear h)
 all_goals (try simp only [eta0, RT.bytes] at *)
 all_goals (try dsimp only [RT.ty] at *)
 all_goals (try simp only [a3U] at *)
 all_goals (try have hf := Y7 (by first | exact hq.2.2.2 | assumption : p9 w = true))
 all_goals first | omega | exact ⟨by omega, by omega, rfl, by assumption⟩ | exact b1P (by assumption) | (have hb := a9X hq.2.2.2 hq.1 (by assumption) _ hq.2.2.1; exact ⟨hb.1, hb.2.1, hb.2.2, hq.2.2.2⟩) | (rw [hq.2.2.1]; exact b1O hq.2.2.2 (by assumption) hq.2.1) | grind [e8]
def a3l (w : Wld) (who seq : Int) (c j : Nat) : Prop := ∀ c' i, c' < w.stores.length → i < (nth .sto w.stores c').recs.length → X8 (nth .sto w.stores c').recs who seq i → c < c' ∨ c = c' ∧ j ≤ i
theorem c3g (w : Wld) (who seq : Int) : a3l w who seq 0 0 := fun c' i _ _ _ => by omega
theorem c3i {w : Wld} {who seq : Int} {c j : Nat} (h : a3l w who seq c j) (hj : (nth .sto w.stores c).recs.length ≤ j) : a3l w who seq (c + 1) 0 := fun c' i h1 h2 h3 => by
 rcases h c' i h1 h2 h3 with e | ⟨e, e2⟩
 ·omega
 ·subst e
  omega
theorem c3h {w : Wld} {who seq : Int} {c j : Nat} (h : a3l w who seq c j) (hn : ¬ X8 (nth .sto w.stores c).recs who seq j) : a3l w who seq c (j + 1) := fun c' i h1 h2 h3 => by
 rcases h c' i h1 h2 h3 with e | ⟨e, e2⟩
 ·exact .inl e
 ·subst e
  refine .inr ⟨rfl, ?_⟩
  by_cases he : j = i
  ·subst he
   exact absurd h3 hn
  ·omega
def b3H (w : Wld) (who seq : Int) : Prop := ∃ c j, c < w.stores.length ∧ j < (nth .sto w.stores c).recs.length ∧ X8 (nth .sto w.stores c).recs who seq j
theorem c6S {w : Wld} {who seq : Int} {c j : Nat} (h : a3l w who seq c j) (hs : b3H w who seq) (hc : w.stores.length ≤ c) : False := by
 obtain ⟨c', i, h1, h2, h3⟩ := hs
 rcases h c' i h1 h2 h3 with e | ⟨e, e2⟩ <;> omega
noncomputable def sCame : Sx.Spec := ⟨false, true, [.row .wld, .int .i64, .int .i64], [], fun _ _ ⟨w, a, b, _⟩ => .asrt (fun _ => From (w ()) ∧ b3H (w ()) (a ()) (b ())) (.ret (vI fun _ => a4B (w ()) (a ()) (b ()), fun _ => 0))⟩
theorem c8l {w : Wld} (h : From w) {c i a b : Int} (h0 : 0 ≤ c) (h1 : c < w.stores.length) (h2 : 0 ≤ i) (h3 : i < (nth .sto w.stores c.toNat).recs.length) (k1 : (nth .rcd (nth .sto w.stores c.toNat).recs i.toNat).kind = 1) (k2 : (nth .rcd (nth .sto w.stores c.toNat).recs i.toNat).ord.who = a) (k3 : (nth .rcd (nth .sto w.stores c.toNat).recs i.toNat).ord.seq = b) :
  (F5 w.map (H6 w.map (nth .sto w.stores c.toNat).base (List.take i.toNat (nth .sto w.stores c.toNat).recs)).c (nth .rcd (nth .sto w.stores c.toNat).recs i.toNat)).code = a4B w a b :=
 (c8m h (by omega) (by omega) ⟨k1, k2, k3⟩).2.2
theorem okCame : b7 Tryz.prog 21 sCame := j8 j3 (ss := [(17, a2D), (58, a6B)]) ⟨a1T, a7C, trivial⟩ rfl rfl <| by
 intro (bs : Th (List Int)) (p : Th Int) ⟨(w : Th Wld), (a : Th Int), (b : Th Int), u⟩ K _ _ ho h
 obtain ⟨w, rfl⟩ := a8 w; obtain ⟨a, rfl⟩ := a8 a; obtain ⟨b, rfl⟩ := a8 b
 obtain ⟨hpre, h⟩ := h
 have hpre : From w ∧ b3H w a b := hpre.out
 have hok := a0M hpre.1
 have hf := Y7 hok
 refine ⟨annL [(21, 2, ⟨Th Int × Th Int, [], fun σ g => (σ.only [1, 2, 3]).t 7 (.one (.att (.int .i64 g.1))), fun σ g _ => Ob fun _ => 0 ≤ g.1 () ∧ g.1 () ≤ w.stores.length ∧ a3l w a b (g.1 ()).toNat 0, fun _ g _ => (10 - g.1 ()).toNat⟩),
  (21, 6, ⟨Th Int × Th Bool, [], fun σ g => (σ.only [1, 2, 3, 7, 8]).t 9 (.one (.att (.int .i64 g.1))), fun σ g _ => Ob ((fun (c : Th Int) => fun _ => 0 ≤ g.1 () ∧ g.1 () ≤ (nth .sto w.stores (c ()).toNat).recs.length ∧ a3l w a b (c ()).toNat (g.1 ()).toNat) (σ.tmI 7)), fun _ g _ => (1000 - g.1 ()).toNat⟩)], noAnn, 20, ?_⟩
 cbv
 repeat' first | ((with_reducible refine fun (g : Th Int × Th Int) => ?_); obtain ⟨c, zz⟩ := g; obtain ⟨c, rfl⟩ := a8 c; obtain ⟨zz, rfl⟩ := a8 zz; (with_reducible refine ImpB.out ?_); cbv; (with_reducible refine ImpB.mk ?_); intro hq; obtain ⟨hq⟩ := hq) | ((with_reducible refine fun (g : Th Int × Th Bool) => ?_); obtain ⟨j, z⟩ := g; obtain ⟨j, rfl⟩ := a8 j; obtain ⟨z, rfl⟩ := a8 z; (with_reducible refine ImpB.out ?_); cbv; (with_reducible refine ImpB.mk ?_); intro hq; obtain ⟨hq⟩ := hq) | ((with_reducible intro _); cbv) | (with_reducible refine And.intro ?_ ?_)
 all_goals try ((first | (with_reducible refine LoopIn.wf (fun σ => (σ.tmI 7, Y2)) ?_ ?_) | (with_reducible refine LoopBack.wf (fun σ => (σ.tmI 7, Y2)) ?_ ?_ ?_) | (with_reducible refine LoopIn.wf (fun σ => (σ.tmI 9, A4)) ?_ ?_) | (with_reducible refine LoopBack.wf (fun σ => (σ.tmI 9, A4)) ?_ ?_ ?_)) <;> cbv)
 all_goals try (with_reducible show _ ∧ _; (try simp only [and_true, true_and]))
 all_goals try (repeat' with_reducible refine And.intro ?_ ?_)
 all_goals try (with_reducible refine MeasB.mk ?_)
 all_goals first | (refine retK h ?_; clear h; simp only [fin0]) | (with_reducible refine Ob.mk ?_; clear h) | (clear h)
 all_goals (try simp only [eta0, RT.bytes] at *)
 all_goals (try dsimp only [RT.ty] at *)
 all_goals (try simp only [a3U] at *)
 all_goals (try simp only [Int.toNat_zero, List.drop_zero] at *)
 all_goals (try have hc3 := (hf.2.2 c.toNat (by omega)).2)
 all_goals (try have hst := u0.1 (hf.2.2 c.toNat (by omega)).1)
 all_goals (try dsimp only [RT.ty] at *)
 all_goals (try have hw1 : IntKind.i64.wrap (c + 1) = c + 1 := e8 (by omega) (by omega))
 all_goals (try have hw2 : IntKind.i64.wrap (j + 1) = j + 1 := e8 (by omega) (by omega))
 all_goals (try rw [hw1])
 all_goals (try rw [hw2])
 all_goals (try rw [show (c + 1).toNat = c.toNat + 1 by omega])
 all_goals (try rw [show (j + 1).toNat = j.toNat + 1 by omega])
 all_goals first | omega | exact ⟨by omega, by omega, c3g _ _ _⟩ | exact ⟨by omega, by omega, hq.2.2⟩ | exact ⟨by omega, by omega, c3i hq.2.2 (by omega)⟩ | exact ⟨by omega, by omega, c3h hq.2.2 (fun h3 => by simp_all [X8])⟩ | exact c8l hpre.1 (by omega) (by assumption) (by omega) (by assumption) (by assumption) (by assumption) (by assumption) | exact (c6S hq.2.2 hpre.2 (by omega)).elim | grind [X8]
noncomputable def b4r : Sx.Spec := ⟨false, true, [.list .byte], [], fun _ _ _ => .ret (vB fun _ => true, fun _ => 0)⟩
theorem onc_in {W : Wld} {l : List Evt} (h : BegE W ∧ l.length ≤ 149) : p9 W = true ∧ l.length ≤ 1000 ∧ From (a5i W l) ∧ p9 (a5i W l) = true := by
 have hb := h.1
 have hf := b7V (c6I hb) l
 exact ⟨b3C hb, by omega, hf, a0M hf⟩
theorem c7s {W : Wld} (h : From W) : W.stores.length ≤ 4 ∧ W.notes.length ≤ 150 ∧ ∀ c : Nat, c < W.stores.length → (nth .sto W.stores c).recs.length ≤ 250 := by
 have hf := Y7 (a0M h)
 exact ⟨hf.1, (G5 (a0M h)).2.2.2.2.1, fun c hc => (hf.2.2 c hc).2⟩
theorem c7r {W : Wld} (h : From W) {c i : Int} (h0 : 0 ≤ c) (h1 : c < W.stores.length) (h2 : 0 ≤ i) (h3 : i < (nth .sto W.stores c.toNat).recs.length) (hk : (nth .rcd (nth .sto W.stores c.toNat).recs i.toNat).kind = 1) :
  O9 W (nth .rcd (nth .sto W.stores c.toNat).recs i.toNat).ord.who (nth .rcd (nth .sto W.stores c.toNat).recs i.toNat).ord.seq = 1 :=
 b1N h (c := c.toNat) (i := i.toNat) (by omega) (by omega) ⟨hk, rfl, rfl⟩
theorem c4n {W : Wld} (h : From W) {i : Int} (h0 : 0 ≤ i) (h1 : i < W.notes.length) : O9 W (nth .note W.notes i.toNat).who (nth .note W.notes i.toNat).seq = 1 ∧ a4B W (nth .note W.notes i.toNat).who (nth .note W.notes i.toNat).seq = (nth .note W.notes i.toNat).code ∧ b3H W (nth .note W.notes i.toNat).who (nth .note W.notes i.toNat).seq :=
 c2b h (by omega)
theorem b2S : b7 Tryz.prog 6 b4r := j8 j3 (ss := [(8, b4v), (11, a2B), (28, a2B), (10, b8R), (19, a3p), (20, a3p), (21, sCame)]) ⟨c1W, b2O, a8W, okPlay, b7l, b5a, okCame, trivial⟩ rfl rfl <| by
 intro (bs : Th (List Int)) (p : Th Int) ⟨(a : Th (List Int)), u⟩ K _ _ ho h
 obtain ⟨a, rfl⟩ := a8 a
 refine ⟨annL [(6, 8, ⟨Th Int × Th Int, [], fun σ g => (σ.only [0, 3]).t 5 (.one (.att (.int .i64 g.1))), fun σ g _ => Ob ((fun (W : Th Wld) => fun _ => 0 ≤ g.1 () ∧ g.1 () ≤ (W ()).stores.length ∧ From (W ())) (a5b σ 4)), fun _ g _ => (10 - g.1 ()).toNat⟩),
  (6, 11, ⟨Th Int × Th Bool, [], fun σ g => (σ.only [0, 3, 5]).t 6 (.one (.att (.int .i64 g.1))), fun σ g _ => Ob ((fun (W : Th Wld) => (fun (c : Th Int) => fun _ => 0 ≤ g.1 () ∧ g.1 () ≤ (nth .sto (W ()).stores (c ()).toNat).recs.length ∧ From (W ())) (σ.tmI 5)) (a5b σ 4)), fun _ g _ => (1000 - g.1 ()).toNat⟩),
  (6, 17, ⟨Th Bool × Th Int, [], fun σ g => (σ.only [0, 3]).t 8 (.one (.att (.int .i64 g.2))), fun σ g _ => Ob ((fun (W : Th Wld) => fun _ => 0 ≤ g.2 () ∧ g.2 () ≤ (W ()).notes.length ∧ From (W ())) (a5b σ 4)), fun _ g _ => (151 - g.2 ()).toNat⟩)], noAnn, 20, ?_⟩
 cbv
 repeat' first | ((with_reducible refine fun (g : Th Int × Th Int) => ?_); obtain ⟨c, zz⟩ := g; obtain ⟨c, rfl⟩ := a8 c; obtain ⟨zz, rfl⟩ := a8 zz; (with_reducible refine ImpB.out ?_); cbv; (with_reducible refine ImpB.mk ?_); intro hq; obtain ⟨hq⟩ := hq) | ((with_reducible refine fun (g : Th Int × Th Bool) => ?_); obtain ⟨i, z⟩ := g; obtain ⟨i, rfl⟩ := a8 i; obtain ⟨z, rfl⟩ := a8 z; (with_reducible refine ImpB.out ?_); cbv; (with_reducible refine ImpB.mk ?_); intro hq; obtain ⟨hq⟩ := hq) | ((with_reducible refine fun (g : Th Bool × Th Int) => ?_); obtain ⟨z, k⟩ := g; obtain ⟨z, rfl⟩ := a8 z; obtain ⟨k, rfl⟩ := a8 k; (with_reducible refine ImpB.out ?_); cbv; (with_reducible refine ImpB.mk ?_); intro hq; obtain ⟨hq⟩ := hq) | ((with_reducible intro _); cbv) | (with_reducible refine And.intro ?_ ?_)
 all_goals try ((first | (with_reducible refine LoopIn.wf (fun σ => (σ.tmI 5, Y2)) ?_ ?_) | (with_reducible refine LoopBack.wf (fun σ => (σ.tmI 5, Y2)) ?_ ?_ ?_) | (with_reducible refine LoopIn.wf (fun σ => (σ.tmI 6, A4)) ?_ ?_) | (with_reducible refine LoopBack.wf (fun σ => (σ.tmI 6, A4)) ?_ ?_ ?_) | (with_reducible refine LoopIn.wf (fun σ => (A4, σ.tmI 8)) ?_ ?_) | (with_reducible refine LoopBack.wf (fun σ => (A4, σ.tmI 8)) ?_ ?_ ?_)) <;> cbv)
 all_goals try (with_reducible show _ ∧ _; (try simp only [and_true, true_and]))
 all_goals try (repeat' with_reducible refine And.intro ?_ ?_)
 all_goals try (with_reducible refine MeasB.mk ?_)
 all_goals first | (refine retK h ?_; clear h; simp only [fin0]) | (with_reducible refine Ob.mk ?_; clear h) | (clear h)
 all_goals (try simp only [eta0, RT.bytes] at *)
 all_goals (try dsimp only [RT.ty] at *)
 all_goals (try simp only [a3U] at *)
 all_goals (try simp only [c5d] at *)
 all_goals (try simp only [eta0, RT.bytes] at *)
 all_goals (try have hO := onc_in (by assumption))
 all_goals (try dsimp only [RT.ty] at hO)
 all_goals (try generalize a5i _ _ = W at *)
 all_goals (try have hN := c7s hO.2.2.1)
 all_goals first | rfl | assumption | omega | exact ⟨by omega, by omega, hO.2.2.1⟩ | skip
 all_goals (try have hc3 := hN.2.2 c.toNat (by omega))
 all_goals (try dsimp only [RT.ty] at *)
 all_goals (try have hw1 : IntKind.i64.wrap (c + 1) = c + 1 := e8 (by omega) (by omega))
 all_goals (try have hw2 : IntKind.i64.wrap (i + 1) = i + 1 := e8 (by omega) (by omega))
 all_goals (try have hw3 : IntKind.i64.wrap (k + 1) = k + 1 := e8 (by omega) (by omega))
 all_goals (try have hR := c7r hO.2.2.1 (c := c) (i := i) (by omega) (by omega) (by omega) (by assumption) (by assumption))
 all_goals (try have hT := c4n hO.2.2.1 (i := k) (by omega) (by assumption))
 all_goals first | omega | exact ⟨hO.2.2.1, hT.2.2⟩ | exact ⟨by omega, by omega, hO.2.2.1⟩ | grind
end Go.Proofs.YtkclfaldmghkeaaGreat
