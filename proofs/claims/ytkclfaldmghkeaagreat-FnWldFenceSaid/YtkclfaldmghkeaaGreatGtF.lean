/-
  The law FnWldFence.
-/
import Derived.Test.YtkclfaldmghkeaaGreatMx
import Derived.Test.YtkclfaldmghkeaaGreatGtA
set_option linter.unusedVariables false
set_option linter.unusedSimpArgs false
set_option maxRecDepth 100000
set_option maxHeartbeats 8000000
namespace Go.Proofs.YtkclfaldmghkeaaGreat
open Go.Sx Go.Proofs Go.Mo
noncomputable def b3h : Sx.Spec := ⟨false, true, [.list .byte], [], fun _ _ _ => .ret (vB fun _ => true, fun _ => 0)⟩
theorem a8L {W : Wld} (h : From W) : W.stores.length ≤ 4 ∧ W.servers.length ≤ 3 ∧ W.table.ages.length = W.stores.length ∧ ∀ i : Nat, i < W.servers.length → (nth .srv W.servers i).holds.length ≤ 4 := by
 have hok := H0 h
 have hF := E4 hok
 have h1 := a1x (m8.1 hok).2.1
 have h2 := p5.1 h1.2
 have h3 := E6 hF.1
 refine ⟨by omega, hF.2.2.2.2.2.2.2.2, by omega, fun i hi => a5q (hF.2.2.2.2.2.2.1 i hi)⟩
theorem fen_hold {W : Wld} (h : From W) {k j : Int} (hk0 : 0 ≤ k) (hk : k < W.servers.length) (hj0 : 0 ≤ j) (hj : j < (nth .srv W.servers k.toNat).holds.length) :
  0 ≤ (nth .hld (nth .srv W.servers k.toNat).holds j.toNat).state.cell ∧ (nth .hld (nth .srv W.servers k.toNat).holds j.toNat).state.cell < W.stores.length ∧
  (nth .hld (nth .srv W.servers k.toNat).holds j.toNat).age ≤ (nth .sto W.stores (nth .hld (nth .srv W.servers k.toNat).holds j.toNat).state.cell.toNat).age ∧ 0 ≤ (nth .hld (nth .srv W.servers k.toNat).holds j.toNat).count ∧
  (nth .hld (nth .srv W.servers k.toNat).holds j.toNat).count ≤ (nth .sto W.stores (nth .hld (nth .srv W.servers k.toNat).holds j.toNat).state.cell.toNat).recs.length ∧
  ((nth .hld (nth .srv W.servers k.toNat).holds j.toNat).age = (nth .sto W.stores (nth .hld (nth .srv W.servers k.toNat).holds j.toNat).state.cell.toNat).age → (nth .hld (nth .srv W.servers k.toNat).holds j.toNat).count = (nth .sto W.stores (nth .hld (nth .srv W.servers k.toNat).holds j.toNat).state.cell.toNat).recs.length) ∧
  @Eq Cll (y6 W.map (nth .sto W.stores (nth .hld (nth .srv W.servers k.toNat).holds j.toNat).state.cell.toNat).base (List.take (nth .hld (nth .srv W.servers k.toNat).holds j.toNat).count.toNat (nth .sto W.stores (nth .hld (nth .srv W.servers k.toNat).holds j.toNat).state.cell.toNat).recs)).c (nth .hld (nth .srv W.servers k.toNat).holds j.toNat).state ∧
  (y6 W.map (nth .sto W.stores (nth .hld (nth .srv W.servers k.toNat).holds j.toNat).state.cell.toNat).base (List.take (nth .hld (nth .srv W.servers k.toNat).holds j.toNat).count.toNat (nth .sto W.stores (nth .hld (nth .srv W.servers k.toNat).holds j.toNat).state.cell.toNat).recs)).n = (nth .hld (nth .srv W.servers k.toNat).holds j.toNat).count :=
 b0d h (k := k.toNat) (j := j.toNat) (by omega) (by omega)
theorem fen_add {W : Wld} {A : List Int} {k j : Int} (hk0 : 0 ≤ k) (hk : k < W.servers.length) (hj : j < (nth .srv W.servers k.toNat).holds.length)
  (h : 0 ≤ j ∧ j ≤ (nth .srv W.servers k.toNat).holds.length ∧ (nth .srv W.servers k.toNat).holds.length ≤ 4 ∧ Alone W A k.toNat j.toNat ∧ From W)
  (ha : (nth .hld (nth .srv W.servers k.toNat).holds j.toNat).age = (nth .sto W.stores (nth .hld (nth .srv W.servers k.toNat).holds j.toNat).state.cell.toNat).age) :
  0 ≤ IntKind.i64.wrap (j + 1) ∧ IntKind.i64.wrap (j + 1) ≤ (nth .srv W.servers k.toNat).holds.length ∧ (nth .srv W.servers k.toNat).holds.length ≤ 4 ∧
  Alone W (A1 .int (fun _ => A) (fun _ => (nth .hld (nth .srv W.servers k.toNat).holds j.toNat).state.cell) (fun _ => IntKind.i64.wrap (nth .int A (nth .hld (nth .srv W.servers k.toNat).holds j.toNat).state.cell.toNat + 1)) PUnit.unit) k.toNat (IntKind.i64.wrap (j + 1)).toNat ∧ From W := by
 obtain ⟨h1, h2, h3, h4, h5⟩ := h
 have hw : IntKind.i64.wrap (j + 1) = j + 1 := b9 (by omega) (by omega)
 obtain ⟨e0, e1⟩ := alone_add h5 h4 (k := k.toNat) (j := j.toNat) (by omega) (by omega) ha
 rw [hw, show (j + 1).toNat = j.toNat + 1 by omega]
 refine ⟨by omega, by omega, h3, ?_, h5⟩
 have e2 : IntKind.i64.wrap (nth .int A (nth .hld (nth .srv W.servers k.toNat).holds j.toNat).state.cell.toNat + 1) = 1 := by
  rw [show nth .int A (nth .hld (nth .srv W.servers k.toNat).holds j.toNat).state.cell.toNat = 0 from e0]
  rfl
 show Alone W (A.set (nth .hld (nth .srv W.servers k.toNat).holds j.toNat).state.cell.toNat (IntKind.i64.wrap (nth .int A (nth .hld (nth .srv W.servers k.toNat).holds j.toNat).state.cell.toNat + 1))) k.toNat (j.toNat + 1)
 rw [e2]
 exact e1
theorem fen_skip {W : Wld} {A : List Int} {k j : Int} (hj : j < (nth .srv W.servers k.toNat).holds.length)
  (h : 0 ≤ j ∧ j ≤ (nth .srv W.servers k.toNat).holds.length ∧ (nth .srv W.servers k.toNat).holds.length ≤ 4 ∧ Alone W A k.toNat j.toNat ∧ From W) :
  0 ≤ IntKind.i64.wrap (j + 1) ∧ IntKind.i64.wrap (j + 1) ≤ (nth .srv W.servers k.toNat).holds.length ∧ (nth .srv W.servers k.toNat).holds.length ≤ 4 ∧ Alone W A k.toNat (IntKind.i64.wrap (j + 1)).toNat ∧ From W := by
 obtain ⟨h1, h2, h3, h4, h5⟩ := h
 have hw : IntKind.i64.wrap (j + 1) = j + 1 := b9 (by omega) (by omega)
 rw [hw, show (j + 1).toNat = j.toNat + 1 by omega]
 exact ⟨by omega, by omega, h3, b9m h4, h5⟩
theorem fen_next {W : Wld} {A : List Int} {k : Int} {j : Nat} (hk0 : 0 ≤ k) (hk : k < W.servers.length) (h4 : Alone W A k.toNat j) (h5 : From W) :
  0 ≤ IntKind.i64.wrap (k + 1) ∧ IntKind.i64.wrap (k + 1) ≤ W.servers.length ∧ W.servers.length ≤ 3 ∧ Alone W A (IntKind.i64.wrap (k + 1)).toNat 0 ∧ From W := by
 have hl := a8L h5
 have hw : IntKind.i64.wrap (k + 1) = k + 1 := b9 (by omega) (by omega)
 rw [hw, show (k + 1).toNat = k.toNat + 1 by omega]
 exact ⟨by omega, by omega, hl.2.1, b9n h4, h5⟩
theorem fen_c {W : Wld} {A : List Int} {c : Int} (h : 0 ≤ c ∧ c ≤ A.length ∧ A.length ≤ 4 ∧ (∃ k, Alone W A k 0) ∧ From W) (hc : c < A.length) :
  c < W.stores.length ∧ c < W.table.ages.length ∧ @LE.le Int _ (nth .int A c.toNat) 1 ∧ @LE.le Int _ (nth .sto W.stores c.toNat).age (nth .int W.table.ages c.toNat) := by
 obtain ⟨h1, h2, h3, ⟨k, h4⟩, h5⟩ := h
 have hl := a8L h5
 have e := h4.len
 exact ⟨by omega, by omega, (alone_le h4 (by omega)).2, age_le (H0 h5) (by omega)⟩
theorem fen_zero {W : Wld} (h : From W) : 0 ≤ 0 ∧ 0 ≤ (W.servers.length : Int) ∧ W.servers.length ≤ 3 ∧ Alone W (List.replicate W.stores.length 0) (Int.toNat 0) 0 ∧ From W :=
 ⟨by omega, by omega, (a8L h).2.1, b0P W, h⟩
theorem b1g : b8 Tryz.prog 5 b3h := j6 j4 (ss := [(8, a1H), (11, P3), (28, P3), (16, a3O), (17, a1E), (18, sIsC)]) ⟨a1N, a2o, a0y, a7l, a0z, a9H, trivial⟩ rfl rfl <| by
 intro (bs : Th (List Int)) (p : Th Int) ⟨(a : Th (List Int)), u⟩ K _ _ ho h
 obtain ⟨a, rfl⟩ := b6 a
 refine ⟨annL [(5, 7, ⟨Th Wld × Th Int, [], fun σ g => (((σ.only [0, 3, 4]).t 5 (.one (.att (.int .i64 g.2)))).a5b 4 0 (Z7 g.1)).h 42 (1, .dead), fun σ g _ => Ob fun _ => 0 ≤ g.2 () ∧ g.2 () ≤ 149 ∧ From (g.1 ()), fun _ g _ => (1001 - g.2 ()).toNat⟩),
  (5, 12, ⟨Th (List Int) × Th Int, [], fun σ g => ((((σ.only [0, 3, 4, 5]).t 7 (.one (.att (.int .i64 g.2)))).t 6 (vO 42 1)).h 42 (1, .row true 0 .int g.1)), fun σ g _ => Ob ((fun (W : Th Wld) => fun _ => 0 ≤ g.2 () ∧ g.2 () ≤ (W ()).servers.length ∧ (W ()).servers.length ≤ 3 ∧ Alone (W ()) (g.1 ()) (g.2 ()).toNat 0 ∧ From (W ())) (Q2 σ 4)), fun _ g _ => (10 - g.2 ()).toNat⟩),
  (5, 15, ⟨Th (List Int) × Th Int × Th Bool, [], fun σ g => ((((σ.only [0, 3, 4, 5, 7]).t 8 (.one (.att (.int .i64 g.2.1)))).t 6 (vO 42 1)).h 42 (1, .row true 0 .int g.1)), fun σ g _ => Ob ((fun (W : Th Wld) => (fun (k : Th Int) => fun _ => 0 ≤ g.2.1 () ∧ g.2.1 () ≤ (nth .srv (W ()).servers (k ()).toNat).holds.length ∧ (nth .srv (W ()).servers (k ()).toNat).holds.length ≤ 4 ∧ Alone (W ()) (g.1 ()) (k ()).toNat (g.2.1 ()).toNat ∧ From (W ())) (σ.tmI 7)) (Q2 σ 4)), fun _ g _ => (10 - g.2.1 ()).toNat⟩),
  (5, 28, ⟨Th (List Int) × Th Bool × Th Int, [], fun σ g => ((((σ.only [0, 3, 4, 5]).t 14 (.one (.att (.int .i64 g.2.2)))).t 6 (vO 42 1)).h 42 (1, .row true 0 .int g.1)), fun σ g _ => Ob ((fun (W : Th Wld) => fun _ => 0 ≤ g.2.2 () ∧ g.2.2 () ≤ (g.1 ()).length ∧ (g.1 ()).length ≤ 4 ∧ (∃ k, Alone (W ()) (g.1 ()) k 0) ∧ From (W ())) (Q2 σ 4)), fun _ g _ => (10 - g.2.2 ()).toNat⟩)], noAnn, 20, ?_⟩
 cbv
 repeat' first | ((with_reducible refine fun (g : Th Wld × Th Int) => ?_); obtain ⟨x, i⟩ := g; obtain ⟨x, rfl⟩ := b6 x; obtain ⟨i, rfl⟩ := b6 i; (with_reducible refine ImpB.out ?_); cbv; (with_reducible refine ImpB.mk ?_); intro hq; obtain ⟨hq⟩ := hq) | ((with_reducible refine fun (g : Th (List Int) × Th Int) => ?_); obtain ⟨A, k⟩ := g; obtain ⟨A, rfl⟩ := b6 A; obtain ⟨k, rfl⟩ := b6 k; (with_reducible refine ImpB.out ?_); cbv; (with_reducible refine ImpB.mk ?_); intro hq; obtain ⟨hq⟩ := hq) | ((with_reducible refine fun (g : Th (List Int) × Th Int × Th Bool) => ?_); obtain ⟨A, j, z⟩ := g; obtain ⟨A, rfl⟩ := b6 A; obtain ⟨j, rfl⟩ := b6 j; obtain ⟨z, rfl⟩ := b6 z; (with_reducible refine ImpB.out ?_); cbv; (with_reducible refine ImpB.mk ?_); intro hq; obtain ⟨hq⟩ := hq) | ((with_reducible refine fun (g : Th (List Int) × Th Bool × Th Int) => ?_); obtain ⟨A, z, c⟩ := g; obtain ⟨A, rfl⟩ := b6 A; obtain ⟨z, rfl⟩ := b6 z; obtain ⟨c, rfl⟩ := b6 c; (with_reducible refine ImpB.out ?_); cbv; (with_reducible refine ImpB.mk ?_); intro hq; obtain ⟨hq⟩ := hq) | ((with_reducible intro _); cbv) | (with_reducible refine And.intro ?_ ?_)
 all_goals try ((first | (with_reducible refine LoopIn.wf (fun σ => (Q2 σ 4, σ.tmI 5)) ?_ ?_) | (with_reducible refine LoopBack.wf (fun σ => (Q2 σ 4, σ.tmI 5)) ?_ ?_ ?_) | (with_reducible refine LoopIn.wf (fun σ => (σ.rowL .int 42, σ.tmI 7)) ?_ ?_) | (with_reducible refine LoopBack.wf (fun σ => (σ.rowL .int 42, σ.tmI 7)) ?_ ?_ ?_) | (with_reducible refine LoopIn.wf (fun σ => (σ.rowL .int 42, σ.tmI 8, y3)) ?_ ?_) | (with_reducible refine LoopBack.wf (fun σ => (σ.rowL .int 42, σ.tmI 8, y3)) ?_ ?_ ?_) | (with_reducible refine LoopIn.wf (fun σ => (σ.rowL .int 42, y3, σ.tmI 14)) ?_ ?_) | (with_reducible refine LoopBack.wf (fun σ => (σ.rowL .int 42, y3, σ.tmI 14)) ?_ ?_ ?_)) <;> cbv)
 all_goals try (with_reducible show _ ∧ _; (try simp only [and_true, true_and]))
 all_goals try (repeat' with_reducible refine And.intro ?_ ?_)
 all_goals try (with_reducible refine MeasB.mk ?_)
 all_goals first | (refine retK h ?_; clear h; simp only [fin0]) | (with_reducible refine Ob.mk ?_; clear h) | (clear h)
 all_goals (try simp only [eta0, RT.bytes] at *)
 all_goals (try dsimp only [RT.ty] at *)
 all_goals (try simp only [a1a] at *)
 all_goals (try simp only [a9N] at *)
 all_goals (try simp only [eta0, RT.bytes] at *)
 all_goals (try clear ho)
 all_goals (try have hb := a6F (by assumption : BegE _ ∧ _).1)
 all_goals (try have hX := (by first | exact hq.2.2 | exact (by assumption : 0 ≤ i ∧ i ≤ 149 ∧ From x).2.2 : From x))
 all_goals (try have hbo := H0 hb)
 all_goals (try (generalize hg : m0 x _ = W at *; have hY : From W := hg ▸ from_step hX _))
 all_goals (try simp only [Int.toNat_zero, List.drop_zero] at *)
 all_goals first | rfl | assumption | omega | exact H0 hX | exact ⟨by omega, by omega, hb⟩ | exact fen_zero hY | skip
 all_goals (try have hL := a8L hY)
 all_goals first | omega | exact fen_add (by omega) (by assumption) (by assumption) hq (by assumption) | exact fen_skip (by assumption) hq | exact fen_next (by omega) (by assumption) hq.2.2.2.1 hY | skip
 all_goals (try have hC := fen_c hq (by assumption))
 all_goals (try have hA := fen_hold hY (k := k) (j := j) (by omega) (by assumption) (by omega) (by assumption))
 all_goals (try obtain ⟨a1, a2, a3, a4, a5, a6, a7, a8⟩ := hA)
 all_goals (try dsimp only [RT.ty] at *)
 all_goals first | omega | exact ⟨by omega, by omega, hL.2.1, b0P W, hY⟩ | exact ⟨by omega, a4, a5⟩ | exact ⟨a1, a2⟩ | (have hlen := hq.2.2.2.1.len; first | exact ⟨a1, by omega⟩ | exact ⟨by omega, by omega, by omega, ⟨k.toNat, hq.2.2.2.1⟩, hY⟩ | exact ⟨by omega, by omega, hL.2.2.2 k.toNat (by omega), hq.2.2.2.1, hY⟩) | (rw [hbo] at *; contradiction) | grind (splits := 20) [b9, Alone]
end Go.Proofs.YtkclfaldmghkeaaGreat
