/-
  The law FnWldStays.
-/
import Derived.Test.YtkclfaldmghkeaaGreatMx
import Derived.Test.YtkclfaldmghkeaaGreatGsS
import Derived.Test.YtkclfaldmghkeaaGreatGtA
import Derived.Test.YtkclfaldmghkeaaGreatGnS
import Derived.Test.YtkclfaldmghkeaaGreatGnW
import Derived.Test.YtkclfaldmghkeaaGreatGnT
set_option linter.unusedVariables false
set_option linter.unusedSimpArgs false
set_option maxRecDepth 100000
set_option maxHeartbeats 8000000
namespace Go.Proofs.YtkclfaldmghkeaaGreat
open Go.Sx Go.Proofs Go.Mo
noncomputable def b3f : Sx.Spec := ⟨false, true, [.list .byte], [], fun _ _ _ => .ret (vB fun _ => true, fun _ => 0)⟩
theorem b1e : b8 Tryz.prog 7 b3f := j6 j4 (ss := [(8, a1H), (11, P3), (28, P3), (16, a3O), (23, a3R), (22, sIsWld)]) ⟨a1N, a2o, a0y, a7l, a4L, c2Q, trivial⟩ rfl rfl <| by
 intro (bs : Th (List Int)) (p : Th Int) ⟨(a : Th (List Int)), u⟩ K _ _ ho h
 obtain ⟨a, rfl⟩ := b6 a
 have hk := fun (w : Wld) (e : Evt) (h : o6 w = true) => @b0W w e h
 have hb := fun (w : Wld) (h : BegE w) => a2C h
 have hm := fun (w : Wld) (e : Evt) (h : o6 w = true) => show (m0 w e).map.cells = w.map.cells ∧ (m0 w e).map.width = w.map.width from by rw [(hk w e h).2.1]; exact ⟨rfl, rfl⟩
 refine ⟨annL [(7, 7, ⟨Th Wld × Th Int, [], fun σ g => ((σ.only [0, 3, 4]).t 5 (.one (.att (.int .i64 g.2)))).a5b 4 0 (Z7 g.1), fun σ g _ => Ob fun _ => o6 (g.1 ()) = true ∧ 0 ≤ g.2 () ∧ g.2 () ≤ 149, fun _ g _ => (150 - g.2 ()).toNat⟩)], noAnn, 20, ?_⟩
 cbv
 repeat' first | ((with_reducible refine fun (g : Th Wld × Th Int) => ?_); obtain ⟨w, i⟩ := g; obtain ⟨w, rfl⟩ := b6 w; obtain ⟨i, rfl⟩ := b6 i; (with_reducible refine ImpB.out ?_); cbv; (with_reducible refine ImpB.mk ?_); intro hq; obtain ⟨hq⟩ := hq) | ((with_reducible intro _); cbv) | (with_reducible refine And.intro ?_ ?_)
 all_goals try ((first | (with_reducible refine LoopIn.wf (fun σ => (Q2 σ 4, σ.tmI 5)) ?_ ?_) | (with_reducible refine LoopBack.wf (fun σ => (Q2 σ 4, σ.tmI 5)) ?_ ?_ ?_)) <;> cbv)
 all_goals try (with_reducible show _ ∧ _; (try simp only [and_true, true_and]))
 all_goals try (repeat' with_reducible refine And.intro ?_ ?_)
 all_goals try (with_reducible refine MeasB.mk ?_)
 all_goals first | (refine retK h ?_; clear h; simp only [fin0]) | (with_reducible refine Ob.mk ?_; clear h) | (clear h)
 all_goals (try simp only [eta0, RT.bytes] at *)
 all_goals (try dsimp only [RT.ty] at *)
 all_goals (try simp only [a1a] at *)
 all_goals (try simp only [a9N] at *)
 all_goals (try simp only [eta0, RT.bytes] at *)
 all_goals (first | omega | grind [j3, b9, c0J])
end Go.Proofs.YtkclfaldmghkeaaGreat
