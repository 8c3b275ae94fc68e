/-
  Contracts: is a world ok, the program's way.
-/
import Derived.Test.YtkclfaldmghkeaaGreatGnS
import Derived.Test.YtkclfaldmghkeaaGreatM3
set_option linter.unusedVariables false
set_option linter.unusedSimpArgs false
set_option maxRecDepth 100000
set_option maxHeartbeats 8000000
namespace Go.Sx
def St.tmL (t : RT) (σ : St) (d : Nat) : Th (List t.ty) := match σ.tm.get d with
 | .one (.att (.list t' l)) => if h : t' = t then P2 h l else a4O t
 | _ => a4O t
end Go.Sx
namespace Go.Proofs.YtkclfaldmghkeaaGreat
open Go.Sx Go.Proofs Go.Mo
theorem ncastW (n : Nat) : (NatCast.natCast n : Int) = (n : Int) := rfl
theorem c1J {k : Nat} (h : k ≤ 1000) : (IntKind.i64.wrap ((k : Int) + 1)).toNat = k + 1 := by rw [j3 (by omega)]; rfl
theorem a2o : b8 Tryz.prog 11 P3 := j6 j4 (ss := [(29, a3b), (30, a5x), (31, a4I), (32, a6Y), (35, a6Z), (38, a1F), (39, sIn)]) ⟨okArbOk, okStosOk, okGwyOk, okSrvOk, okMsgOk, a2r, okIn, trivial⟩ rfl rfl <| by
 intro (bs : Th (List Int)) (p : Th Int) ⟨(w : Th Wld), u⟩ K _ _ ho h
 obtain ⟨w, rfl⟩ := b6 w
 have ht := @E6 w.map w.table w.servers.length
 have hs := @a1x w.map w.stores
 have hs4 := @a8X w.map w.stores
 have he := b1p w
 have hi := fun (k j : Nat) => @c0O w.map (nth .srv w.servers k) j
 have hi2 := fun (k : Nat) => @a9M w.map w.servers.length (nth .msg w.net k)
 have hn := fun (k : Nat) => @a5q w.map (nth .srv w.servers k)
 refine ⟨annL [(11, 5, ⟨Th Int × Th Bool, [], fun σ g => (σ.only [1, 3, 47, 48]).t 49 (.one (.att (.int .i64 g.1))), fun _ g _ => Ob fun _ => 0 ≤ g.1 () ∧ g.1 () ≤ w.stores.length ∧ w.stores.length ≤ 4 ∧ A4 w.map w.table w.servers.length = true ∧ y1 w.map w.stores = true ∧ z8 w.map w.rows = true ∧ w.net.length ≤ 40 ∧ w.notes.length ≤ 150 ∧ m4 (g.1 ()).toNat (a0K w) = true, fun _ g _ => 5 - (g.1 ()).toNat⟩),
  (11, 11, ⟨Th Bool × Th Int, [], fun σ g => (σ.only [1, 3, 65, 66]).t 67 (.one (.att (.int .i64 g.2))), fun _ g _ => Ob fun _ => 0 ≤ g.2 () ∧ g.2 () ≤ w.servers.length ∧ w.servers.length ≤ 3 ∧ m4 w.stores.length (a0K w) = true ∧ m4 (g.2 ()).toNat (a2J w) = true, fun _ g _ => 4 - (g.2 ()).toNat⟩),
  (84, 2, ⟨Th Int × Th Int, [], fun σ g => σ.t 8 (.one (.att (.int .i64 g.1))), fun σ g _ => Ob ((fun (L : Th (List Hld)) => fun _ => 0 ≤ g.1 () ∧ g.1 () ≤ (L ()).length ∧ (L ()).length ≤ 4 ∧ m4 (g.1 ()).toNat (a3J w.table (L ())) = true) (σ.tmL .hld 0)), fun _ g _ => 5 - (g.1 ()).toNat⟩),
  (11, 17, ⟨Th Bool × Th Int × Th Int, [], fun σ g => (σ.only [1, 3, 83, 84]).t 85 (.one (.att (.int .i64 g.2.1))), fun _ g _ => Ob fun _ => 0 ≤ g.2.1 () ∧ g.2.1 () ≤ w.net.length ∧ m4 w.stores.length (a0K w) = true ∧ a6W w = true ∧ m4 (g.2.1 ()).toNat (a6c w) = true, fun _ g _ => 41 - (g.2.1 ()).toNat⟩),
  (87, 2, ⟨Th Bool × Th Bool × Th Int, [], fun σ g => σ.t 8 (.one (.att (.int .i64 g.2.2))), fun σ g _ => Ob fun _ => 0 ≤ g.2.2 () ∧ g.2.2 () ≤ w.notes.length ∧ m4 (g.2.2 ()).toNat (a3r w.notes) = true, fun _ g _ => 151 - (g.2.2 ()).toNat⟩)], annL [(33, 1, ⟨Th Bool × Th Bool, [], fun σ _ => σ, fun _ _ _ => Ob fun _ => True, fun _ _ _ => 0⟩), (36, 1, ⟨Th Bool × Th Bool, [], fun σ _ => σ, fun _ _ _ => Ob fun _ => True, fun _ _ _ => 0⟩)], 20, ?_⟩
 cbv
 repeat' first | ((with_reducible refine fun (g : Th Int × Th Bool) => ?_); obtain ⟨i, z⟩ := g; obtain ⟨i, rfl⟩ := b6 i; obtain ⟨z, rfl⟩ := b6 z; (with_reducible refine ImpB.out ?_); cbv; (with_reducible refine ImpB.mk ?_); intro hq; obtain ⟨hq⟩ := hq; have hq0 := hq.1; obtain ⟨i, rfl⟩ := Int.eq_ofNat_of_zero_le hq0; clear hq0) | ((with_reducible refine fun (g : Th Bool × Th Int) => ?_); obtain ⟨z, i⟩ := g; obtain ⟨z, rfl⟩ := b6 z; obtain ⟨i, rfl⟩ := b6 i; (with_reducible refine ImpB.out ?_); cbv; (with_reducible refine ImpB.mk ?_); intro hq; obtain ⟨hq⟩ := hq; have hq0 := hq.1; obtain ⟨i, rfl⟩ := Int.eq_ofNat_of_zero_le hq0; clear hq0) | ((with_reducible refine fun (g : Th Int × Th Int) => ?_); obtain ⟨j, z⟩ := g; obtain ⟨j, rfl⟩ := b6 j; obtain ⟨z, rfl⟩ := b6 z; (with_reducible refine ImpB.out ?_); cbv; (with_reducible refine ImpB.mk ?_); intro hq; obtain ⟨hq⟩ := hq; have hq0 := hq.1; obtain ⟨j, rfl⟩ := Int.eq_ofNat_of_zero_le hq0; clear hq0) | ((with_reducible refine fun (g : Th Bool × Th Int × Th Int) => ?_); obtain ⟨z, i, y⟩ := g; obtain ⟨z, rfl⟩ := b6 z; obtain ⟨i, rfl⟩ := b6 i; obtain ⟨y, rfl⟩ := b6 y; (with_reducible refine ImpB.out ?_); cbv; (with_reducible refine ImpB.mk ?_); intro hq; obtain ⟨hq⟩ := hq; have hq0 := hq.1; obtain ⟨i, rfl⟩ := Int.eq_ofNat_of_zero_le hq0; clear hq0) | ((with_reducible refine fun (g : Th Bool × Th Bool × Th Int) => ?_); obtain ⟨z, y, i⟩ := g; obtain ⟨z, rfl⟩ := b6 z; obtain ⟨y, rfl⟩ := b6 y; obtain ⟨i, rfl⟩ := b6 i; (with_reducible refine ImpB.out ?_); cbv; (with_reducible refine ImpB.mk ?_); intro hq; obtain ⟨hq⟩ := hq; have hq0 := hq.1; obtain ⟨i, rfl⟩ := Int.eq_ofNat_of_zero_le hq0; clear hq0) | ((with_reducible refine fun (g : Th Bool × Th Bool) => ?_); obtain ⟨z, y⟩ := g; obtain ⟨z, rfl⟩ := b6 z; obtain ⟨y, rfl⟩ := b6 y; (with_reducible refine ImpB.out ?_); cbv; (with_reducible refine ImpB.mk ?_); intro hq; obtain ⟨hq⟩ := hq) | ((with_reducible intro _); cbv) | (with_reducible refine And.intro ?_ ?_)
 all_goals try ((first | (with_reducible refine LoopIn.wf (fun σ => (σ.tmI 49, y3)) ?_ ?_) | (with_reducible refine LoopBack.wf (fun σ => (σ.tmI 49, y3)) ?_ ?_ ?_) | (with_reducible refine LoopIn.wf (fun σ => (y3, σ.tmI 67)) ?_ ?_) | (with_reducible refine LoopBack.wf (fun σ => (y3, σ.tmI 67)) ?_ ?_ ?_) | (with_reducible refine LoopIn.wf (fun σ => (σ.tmI 8, Z9)) ?_ ?_) | (with_reducible refine LoopBack.wf (fun σ => (σ.tmI 8, Z9)) ?_ ?_ ?_) | (with_reducible refine LoopIn.wf (fun σ => (y3, σ.tmI 85, Z9)) ?_ ?_) | (with_reducible refine LoopBack.wf (fun σ => (y3, σ.tmI 85, Z9)) ?_ ?_ ?_) | (with_reducible refine LoopIn.wf (fun σ => (y3, y3, σ.tmI 8)) ?_ ?_) | (with_reducible refine LoopBack.wf (fun σ => (y3, y3, σ.tmI 8)) ?_ ?_ ?_) | (with_reducible refine LoopIn.wf (fun _ => (y3, y3)) ?_ ?_) | (with_reducible refine LoopBack.wf (fun _ => (y3, y3)) ?_ ?_ ?_)) <;> cbv)
 all_goals try (with_reducible show _ ∧ _; (try simp only [and_true, true_and]))
 all_goals try (repeat' with_reducible refine And.intro ?_ ?_)
 all_goals try (with_reducible refine MeasB.mk ?_)
 all_goals first | (refine retK h ?_; clear h; simp only [fin0]) | (with_reducible refine Ob.mk ?_; clear h) | (clear h)
 all_goals (try simp only [eta0, RT.bytes] at *)
 all_goals (try dsimp only [RT.ty] at *)
 all_goals (try simp only [Int.toNat_natCast, Int.toNat_zero] at *)
 all_goals (try simp only [ncastW] at *)
 all_goals (try simp (disch := omega) only [c1J, j3, Int.toNat_natCast])
 all_goals (first | omega | grind (splits := 30) [j3, b9, a5l, a6W, a9L, a6b, b1x, b1w, b4V, b4L, a0K, a3J, c0F, a6c, b1X, a3r, a3q, a1Y, n4, n3, inR])
end Go.Proofs.YtkclfaldmghkeaaGreat
