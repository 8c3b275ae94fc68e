/-
  Contracts: is a world ok, the program's way.
-/
import Derived.Test.YtkclfaldmghkeaaGreatGnS
import Derived.Test.YtkclfaldmghkeaaGreatM3
set_option linter.unusedVariables false
set_option linter.unusedSimpArgs false
set_option maxRecDepth 100000
set_option maxHeartbeats 8000000
namespace Go.Sx
def St.tmL (t : RT) (σ : St) (d : Nat) : Th (List t.ty) := match σ.tm.get d with
 | .one (.att (.list t' l)) => if h : t' = t then O3 h l else a4q t
 | _ => a4q t
end Go.Sx
namespace Go.Proofs.YtkclfaldmghkeaaGreat
open Go.Sx Go.Proofs Go.Mo
theorem ncastW (n : Nat) : (NatCast.natCast n : Int) = (n : Int) := rfl
theorem c0N {k : Nat} (h : k ≤ 1000) : (IntKind.i64.wrap ((k : Int) + 1)).toNat = k + 1 := by rw [j5 (by omega)]; rfl
theorem b2O : b7 Tryz.prog 11 a2B := j8 j3 (ss := [(29, a2F), (30, a4V), (31, a4j), (32, a6x), (35, a6z), (38, a1j), (39, sIn)]) ⟨c7E, c4o, c7D, c7v, c7y, a1U, okIn, trivial⟩ rfl rfl <| by
 intro (bs : Th (List Int)) (p : Th Int) ⟨(w : Th Wld), u⟩ K _ _ ho h
 obtain ⟨w, rfl⟩ := a8 w
 have ht := @F3 w.map w.table w.servers.length
 have hs := @a4O w.map w.stores
 have hs4 := @a8v w.map w.stores
 have he := b0G w
 have hi := fun (k j : Nat) => @b9T w.map (nth .srv w.servers k) j
 have hi2 := fun (k : Nat) => @a9i w.map w.servers.length (nth .msg w.net k)
 have hn := fun (k : Nat) => @a7W w.map (nth .srv w.servers k)
 refine ⟨annL [(11, 5, ⟨Th Int × Th Bool, [], fun σ g => (σ.only [1, 3, 47, 48]).t 49 (.one (.att (.int .i64 g.1))), fun _ g _ => Ob fun _ => 0 ≤ g.1 () ∧ g.1 () ≤ w.stores.length ∧ w.stores.length ≤ 4 ∧ z5 w.map w.table w.servers.length = true ∧ x7 w.map w.stores = true ∧ y6 w.map w.rows = true ∧ w.net.length ≤ 40 ∧ w.notes.length ≤ 150 ∧ l8 (g.1 ()).toNat (a0q w) = true, fun _ g _ => 5 - (g.1 ()).toNat⟩),
  (11, 11, ⟨Th Bool × Th Int, [], fun σ g => (σ.only [1, 3, 65, 66]).t 67 (.one (.att (.int .i64 g.2))), fun _ g _ => Ob fun _ => 0 ≤ g.2 () ∧ g.2 () ≤ w.servers.length ∧ w.servers.length ≤ 3 ∧ l8 w.stores.length (a0q w) = true ∧ l8 (g.2 ()).toNat (a2m w) = true, fun _ g _ => 4 - (g.2 ()).toNat⟩),
  (84, 2, ⟨Th Int × Th Int, [], fun σ g => σ.t 8 (.one (.att (.int .i64 g.1))), fun σ g _ => Ob ((fun (L : Th (List Hld)) => fun _ => 0 ≤ g.1 () ∧ g.1 () ≤ (L ()).length ∧ (L ()).length ≤ 4 ∧ l8 (g.1 ()).toNat (a3k w.table (L ())) = true) (σ.tmL .hld 0)), fun _ g _ => 5 - (g.1 ()).toNat⟩),
  (11, 17, ⟨Th Bool × Th Int × Th Int, [], fun σ g => (σ.only [1, 3, 83, 84]).t 85 (.one (.att (.int .i64 g.2.1))), fun _ g _ => Ob fun _ => 0 ≤ g.2.1 () ∧ g.2.1 () ≤ w.net.length ∧ l8 w.stores.length (a0q w) = true ∧ a6v w = true ∧ l8 (g.2.1 ()).toNat (a5C w) = true, fun _ g _ => 41 - (g.2.1 ()).toNat⟩),
  (87, 2, ⟨Th Bool × Th Bool × Th Int, [], fun σ g => σ.t 8 (.one (.att (.int .i64 g.2.2))), fun σ g _ => Ob fun _ => 0 ≤ g.2.2 () ∧ g.2.2 () ≤ w.notes.length ∧ l8 (g.2.2 ()).toNat (a2T w.notes) = true, fun _ g _ => 151 - (g.2.2 ()).toNat⟩)], annL [(33, 1, ⟨Th Bool × Th Bool, [], fun σ _ => σ, fun _ _ _ => Ob fun _ => True, fun _ _ _ => 0⟩), (36, 1, ⟨Th Bool × Th Bool, [], fun σ _ => σ, fun _ _ _ => Ob fun _ => True, fun _ _ _ => 0⟩)], 20, ?_⟩
 cbv
 repeat' first | ((with_reducible refine fun (g : Th Int × Th Bool) => ?_); obtain ⟨i, z⟩ := g; obtain ⟨i, rfl⟩ := a8 i; obtain ⟨z, rfl⟩ := a8 z; (with_reducible refine ImpB.out ?_); cbv; (with_reducible refine ImpB.mk ?_); intro hq; obtain ⟨hq⟩ := hq; have hq0 := hq.1; obtain ⟨i, rfl⟩ := Int.eq_ofNat_of_zero_le hq0; clear hq0) | ((with_reducible refine fun (g : Th Bool × Th Int) => ?_); obtain ⟨z, i⟩ := g; obtain ⟨z, rfl⟩ := a8 z; obtain ⟨i, rfl⟩ := a8 i; (with_reducible refine ImpB.out ?_); cbv; (with_reducible refine ImpB.mk ?_); intro hq; obtain ⟨hq⟩ := hq; have hq0 := hq.1; obtain ⟨i, rfl⟩ := Int.eq_ofNat_of_zero_le hq0; clear hq0) | ((with_reducible refine fun (g : Th Int × Th Int) => ?_); obtain ⟨j, z⟩ := g; obtain ⟨j, rfl⟩ := a8 j; obtain ⟨z, rfl⟩ := a8 z; (with_reducible refine ImpB.out ?_); cbv; (with_reducible refine ImpB.mk ?_); intro hq; obtain ⟨hq⟩ := hq; have hq0 := hq.1; obtain ⟨j, rfl⟩ := Int.eq_ofNat_of_zero_le hq0; clear hq0) | ((with_reducible refine fun (g : Th Bool × Th Int × Th Int) => ?_); obtain ⟨z, i, y⟩ := g; obtain ⟨z, rfl⟩ := a8 z; obtain ⟨i, rfl⟩ := a8 i; obtain ⟨y, rfl⟩ := a8 y; (with_reducible refine ImpB.out ?_); cbv; (with_reducible refine ImpB.mk ?_); intro hq; obtain ⟨hq⟩ := hq; have hq0 := hq.1; obtain ⟨i, rfl⟩ := Int.eq_ofNat_of_zero_le hq0; clear hq0) | ((with_reducible refine fun (g : Th Bool × Th Bool × Th Int) => ?_); obtain ⟨z, y, i⟩ := g; obtain ⟨z, rfl⟩ := a8 z; obtain ⟨y, rfl⟩ := a8 y; obtain ⟨i, rfl⟩ := a8 i; (with_reducible refine ImpB.out ?_); cbv; (with_reducible refine ImpB.mk ?_); intro hq; obtain ⟨hq⟩ := hq; have hq0 := hq.1; obtain ⟨i, rfl⟩ := Int.eq_ofNat_of_zero_le hq0; clear hq0) | ((with_reducible refine fun (g : Th Bool × Th Bool) => ?_); obtain ⟨z, y⟩ := g; obtain ⟨z, rfl⟩ := a8 z; obtain ⟨y, rfl⟩ := a8 y; (with_reducible refine ImpB.out ?_); cbv; (with_reducible refine ImpB.mk ?_); intro hq; obtain ⟨hq⟩ := hq) | ((with_reducible intro _); cbv) | (with_reducible refine And.intro ?_ ?_)
 all_goals try ((first | (with_reducible refine LoopIn.wf (fun σ => (σ.tmI 49, A4)) ?_ ?_) | (with_reducible refine LoopBack.wf (fun σ => (σ.tmI 49, A4)) ?_ ?_ ?_) | (with_reducible refine LoopIn.wf (fun σ => (A4, σ.tmI 67)) ?_ ?_) | (with_reducible refine LoopBack.wf (fun σ => (A4, σ.tmI 67)) ?_ ?_ ?_) | (with_reducible refine LoopIn.wf (fun σ => (σ.tmI 8, Y2)) ?_ ?_) | (with_reducible refine LoopBack.wf (fun σ => (σ.tmI 8, Y2)) ?_ ?_ ?_) | (with_reducible refine LoopIn.wf (fun σ => (A4, σ.tmI 85, Y2)) ?_ ?_) | (with_reducible refine LoopBack.wf (fun σ => (A4, σ.tmI 85, Y2)) ?_ ?_ ?_) | (with_reducible refine LoopIn.wf (fun σ => (A4, A4, σ.tmI 8)) ?_ ?_) | (with_reducible refine LoopBack.wf (fun σ => (A4, A4, σ.tmI 8)) ?_ ?_ ?_) | (with_reducible refine LoopIn.wf (fun _ => (A4, A4)) ?_ ?_) | (with_reducible refine LoopBack.wf (fun _ => (A4, A4)) ?_ ?_ ?_)) <;> cbv)
 all_goals try (with_reducible show _ ∧ _; (try simp only [and_true, true_and]))
 all_goals try (repeat' with_reducible refine And.intro ?_ ?_)
 all_goals try (with_reducible refine MeasB.mk ?_)
 all_goals first | (refine retK h ?_; clear h; simp only [fin0]) | (with_reducible refine Ob.mk ?_; clear h) | (clear h)
 all_goals (try simp only [eta0, RT.bytes] at *)
 all_goals (try dsimp only [RT.ty] at *)
 all_goals (try simp only [Int.toNat_natCast, Int.toNat_zero] at *)
 all_goals (try simp only [ncastW] at *)
 all_goals (try simp (disch := omega) only [c0N, j5, Int.toNat_natCast])
 all_goals (first | omega | grind (splits := 30) [j5, e8, a4J, a6v, a9h, a5B, b0O, b0N, b4f, b3V, a0q, a3k, b9K, a5C, b1p, a2T, a4p, a1A, m8, m7, inR])
end Go.Proofs.YtkclfaldmghkeaaGreat
