/-
  The law FnWldOrder.
-/
import Derived.Test.YtkclfaldmghkeaaGreatMx
import Derived.Test.YtkclfaldmghkeaaGreatGtA
set_option linter.unusedVariables false
set_option linter.unusedSimpArgs false
set_option maxRecDepth 100000
set_option maxHeartbeats 8000000
namespace Go.Proofs.YtkclfaldmghkeaaGreat
open Go.Sx Go.Proofs Go.Mo
noncomputable def b3g : Sx.Spec := ⟨false, true, [.list .byte], [], fun _ _ _ => .ret (vB fun _ => true, fun _ => 0)⟩
theorem ord_in {W : Wld} {l : List Evt} (h : BegE W ∧ l.length ≤ 149) : o6 W = true ∧ W.rows.length ≤ 9 ∧ l.length ≤ 1000 ∧ (∀ i : Nat, i < W.rows.length → 1 ≤ (nth .row W.rows i).who ∧ (nth .row W.rows i).who ≤ 9 ∧ (nth .row W.rows i).seq = 0) ∧
  From (J8 W l) ∧ o6 (J8 W l) = true ∧ (J8 W l).notes.length ≤ 150 ∧ Ordd (J8 W l) (List.replicate 10 0) 0 ∧
  (∀ (F : List Int) (j : Nat), j < (J8 W l).notes.length → Ordd (J8 W l) F j → F.length = 10 ∧ 1 ≤ (nth .note (J8 W l).notes j).who ∧ (nth .note (J8 W l).notes j).who ≤ 9 ∧
   @Eq Int (nth .int F (nth .note (J8 W l).notes j).who.toNat + 1) (nth .note (J8 W l).notes j).seq ∧ @Eq Int (IntKind.i64.wrap (nth .int F (nth .note (J8 W l).notes j).who.toNat + 1)) (nth .note (J8 W l).notes j).seq ∧ Ordd (J8 W l) (F.set (nth .note (J8 W l).notes j).who.toNat (nth .note (J8 W l).notes j).seq) (j + 1)) := by
 have hb := h.1
 have hok := a2C hb
 have hf := a4W (a6F hb) l
 have hok2 := H0 hf
 refine ⟨hok, (b3B hok).1, by omega, fun i hi => ⟨(b5q hok hi).1, (b5q hok hi).2, beg_row hb hi⟩, hf, hok2, (m8.1 hok2).2.2.2.2.1, c2p _, fun F j hj ho => ?_⟩
 have hn := c0D hok2 hj
 have hs := c2q hf hj ho
 refine ⟨ho.1, hn.1, hn.2.1, hs.1, ?_, hs.2⟩
 rw [hs.1]
 exact b9 (by omega) (by omega)
theorem b1f : b8 Tryz.prog 3 b3g := j6 j4 (ss := [(8, a1H), (11, P3), (28, P3), (10, a8A)]) ⟨a1N, a2o, a0y, b8j, trivial⟩ rfl rfl <| by
 intro (bs : Th (List Int)) (p : Th Int) ⟨(a : Th (List Int)), u⟩ K _ _ ho h
 obtain ⟨a, rfl⟩ := b6 a
 refine ⟨annL [(3, 8, ⟨Th Int × Th (List Int), [], fun σ g => ((((σ.only [0, 3, 4]).t 6 (.one (.att (.int .i64 g.1)))).t 5 (vO 21 1)).h 21 (1, .row true 0 .int g.2)), fun σ g _ => Ob ((fun (W : Th Wld) => fun _ => 0 ≤ g.1 () ∧ g.1 () ≤ (W ()).rows.length ∧ (W ()).rows.length ≤ 9 ∧ g.2 () = List.replicate 10 0 ∧ BegE (W ())) (Q2 σ 4)), fun _ g _ => (10 - g.1 ()).toNat⟩),
  (3, 13, ⟨Th (List Int) × Th Int, [], fun σ g => ((((σ.only [0, 3]).t 7 (.one (.att (.int .i64 g.2)))).t 5 (vO 21 1)).h 21 (1, .row true 0 .int g.1)), fun σ g _ => Ob ((fun (W : Th Wld) => fun _ => 0 ≤ g.2 () ∧ g.2 () ≤ (W ()).notes.length ∧ (W ()).notes.length ≤ 150 ∧ Ordd (W ()) (g.1 ()) (g.2 ()).toNat ∧ From (W ())) (Q2 σ 4)), fun _ g _ => (151 - g.2 ()).toNat⟩)], noAnn, 20, ?_⟩
 cbv
 repeat' first | ((with_reducible refine fun (g : Th Int × Th (List Int)) => ?_); obtain ⟨i, F⟩ := g; obtain ⟨i, rfl⟩ := b6 i; obtain ⟨F, rfl⟩ := b6 F; (with_reducible refine ImpB.out ?_); cbv; (with_reducible refine ImpB.mk ?_); intro hq; obtain ⟨hq⟩ := hq) | ((with_reducible refine fun (g : Th (List Int) × Th Int) => ?_); obtain ⟨F, i⟩ := g; obtain ⟨F, rfl⟩ := b6 F; obtain ⟨i, rfl⟩ := b6 i; (with_reducible refine ImpB.out ?_); cbv; (with_reducible refine ImpB.mk ?_); intro hq; obtain ⟨hq⟩ := hq) | ((with_reducible intro _); cbv) | (with_reducible refine And.intro ?_ ?_)
 all_goals try ((first | (with_reducible refine LoopIn.wf (fun σ => (σ.tmI 6, σ.rowL .int 21)) ?_ ?_) | (with_reducible refine LoopBack.wf (fun σ => (σ.tmI 6, σ.rowL .int 21)) ?_ ?_ ?_) | (with_reducible refine LoopIn.wf (fun σ => (σ.rowL .int 21, σ.tmI 7)) ?_ ?_) | (with_reducible refine LoopBack.wf (fun σ => (σ.rowL .int 21, σ.tmI 7)) ?_ ?_ ?_)) <;> cbv)
 all_goals try (with_reducible show _ ∧ _; (try simp only [and_true, true_and]))
 all_goals try (repeat' with_reducible refine And.intro ?_ ?_)
 all_goals try (with_reducible refine MeasB.mk ?_)
 all_goals first | (refine retK h ?_; clear h; simp only [fin0]) | (with_reducible refine Ob.mk ?_; clear h) | (clear h)
 all_goals (try simp only [eta0, RT.bytes] at *)
 all_goals (try dsimp only [RT.ty] at *)
 all_goals (try simp only [a1a] at *)
 all_goals (try simp only [a9N] at *)
 all_goals (try simp only [eta0, RT.bytes] at *)
 all_goals (try have hO := ord_in (by assumption))
 all_goals (try dsimp only [RT.ty] at hO)
 all_goals (try simp only [B2])
 all_goals first | omega | rfl | grind [b9, set_rep, a2C]
end Go.Proofs.YtkclfaldmghkeaaGreat
