/-
  Contracts: what is drawn: lists of walkers, records.
-/
import Derived.Test.YtkclfaldmghkeaaGreatFnP
import Derived.Test.YtkclfaldmghkeaaGreatM1
import Derived.Test.YtkclfaldmghkeaaGreatGnC
import Derived.Test.YtkclfaldmghkeaaGreatGnH
import Derived.Test.YtkclfaldmghkeaaGreatGnTb
import Derived.Test.YtkclfaldmghkeaaGreatM3
set_option linter.unusedVariables false
set_option linter.unusedSimpArgs false
set_option maxRecDepth 100000
set_option maxHeartbeats 8000000
namespace Go.Proofs.YtkclfaldmghkeaaGreat
open Go.Sx Go.Proofs Go.Mo
noncomputable def b4t : Sx.Spec := ⟨false, true, [.map, .book, .int .i64, .row .msg], [[some .row], [none]], fun _ _ ⟨m, l, s, x, _⟩ => .ret (.tup [oAs [.list .row fun _ => (a0k (m ()) (l ()) (s ()) (x ())).b], vB fun _ => (a0k (m ()) (l ()) (s ()) (x ())).ok], fun _ => 0)⟩
theorem b7q : b7 Tryz.prog 204 b4t := j8 j3 (ss := [(75, a4j), (144, a6z), (132, a3t), (173, Q4)]) ⟨a5w, a9a, a6N, b2T, trivial⟩ rfl rfl <| by
 intro (bs : Th (List Int)) (p : Th Int) ⟨(m : Th PMap), (l : Th (List Row)), (s : Th Int), (x : Th Msg), u⟩ K _ _ ho h
 obtain ⟨m, rfl⟩ := a8 m; obtain ⟨l, rfl⟩ := a8 l; obtain ⟨s, rfl⟩ := a8 s; obtain ⟨x, rfl⟩ := a8 x
 have hp := a0S l x.ord.who
 have hlt0 : ¬ k8 l x.ord.who = -1 → (k8 l x.ord.who).toNat < l.length := fun h => by omega
 have hq := fun (h : y6 m l = true) => b1z h
 have hr := @b6n (nth .row l (k8 l x.ord.who).toNat).cell m.cells
 refine ⟨noAnn, noAnn, 20, ?_⟩
 cbv
 repeat' first | ((with_reducible intro _); cbv) | (with_reducible refine And.intro ?_ ?_)
 all_goals first | (refine retK h ?_; clear h; simp only [fin0]) | (with_reducible refine Ob.mk ?_; clear h) | (clear h)
 all_goals (try simp only [eta0, RT.bytes] at *)
 all_goals (try have hlt := hlt0 (by assumption))
 all_goals (try (have hz := hq (by assumption); obtain ⟨hm1, hm2, hc⟩ := hz))
 all_goals (try have hw := e8 (n := (nth .row l (k8 l x.ord.who).toNat).cell + 1) (by have := hc _ hlt; omega) (by have := hc _ hlt; omega))
 all_goals (try simp only [l9 .row hlt, List.set_set, List.length_set] at *)
 all_goals (try simp only [a4h, l9 .row hlt, List.set_set, List.length_set, b3S, a8s] at *)
 all_goals (try simp only [hw] at *)
 all_goals (try simp only [a0k, y0, Mo.rowAt] at *)
 all_goals (try generalize ((nth RT.row l (k8 l x.ord.who).toNat).cell + 1).tmod m.cells = q at *)
 all_goals grind [s5, b9x]
theorem c3u {m : PMap} {t : Arb} {v : Int} (h : z5 m t v = true) : tabB t v := by
 have h1 := F3 h
 have h2 := r6.1 h1.2.2.1
 refine ⟨by omega, by omega, by omega, by omega, fun k hk => ?_⟩
 have := a7h h (k := k) (by omega)
 exact ⟨this.2.2.1, this.2.2.2.1⟩
theorem c5H {t : Arb} {v c s : Int} (h : tabB t v) (hg : (p6 t v c s).ok = true) : 0 ≤ c ∧ c < ((p6 t v c s).t.ages.length : Int) := by
 obtain ⟨h1, -⟩ := h
 unfold p6 at hg ⊢
 split at hg
 ·rename_i hc
  rw [if_pos hc]
  simp only [List.length_set]
  omega
 ·cases hg
section
variable {w : Wld} {e : Evt} {x : Arb} {rows : List Row} {l : List Msg}
theorem st1 (hk : e.kind = 1) (hg : (p6 w.table w.servers.length e.pos e.dest).ok = true) : u4 ⟨w.map, w.servers, w.stores, (p6 w.table w.servers.length e.pos e.dest).t, w.rows, w.net, w.notes⟩ [⟨1, e.dest, e.pos, 0, nth .int (p6 w.table w.servers.length e.pos e.dest).t.ages e.pos.toNat, ⟨0, 0, 0, 0, 0⟩, ⟨0, 0, ⟨0, 0, 0, 0, 0⟩, 0⟩, ⟨0, 0, ⟨0, 0, 0, 0, 0⟩⟩⟩] = u3 w e := by
 unfold u3
 rw [if_pos hk]
 simp only [hg, if_true]
 rfl
theorem st1n (hk : e.kind = 1) (hg : (p6 w.table w.servers.length e.pos e.dest).ok = false) : (⟨w.map, w.servers, w.stores, (p6 w.table w.servers.length e.pos e.dest).t, w.rows, w.net, w.notes⟩ : Wld) = u3 w e := by
 unfold u3
 rw [if_pos hk]
 simp only [hg]
 rw [if_neg (by simp)]
 unfold p6 at hg ⊢
 split at hg
 ·cases hg
 ·rename_i hc
  rw [if_neg hc]
theorem st2 (hk : e.kind = 2) : (⟨w.map, w.servers, w.stores, w.table, (L8 w.rows e.pos e.what e.dest e.n).b, w.net, w.notes⟩ : Wld) = u3 w e := by
 unfold u3
 rw [if_neg (by omega), if_pos hk]
theorem st3 (hk : e.kind = 3) (h1 : ¬ k8 w.rows e.pos < 0) (h2 : (nth .row w.rows (k8 w.rows e.pos).toNat).busy = true) (h3 : ¬ n4 w.table (nth .row w.rows (k8 w.rows e.pos).toNat).cell = -1) :
  u4 w [⟨2, n4 w.table (nth .row w.rows (k8 w.rows e.pos).toNat).cell, (nth .row w.rows (k8 w.rows e.pos).toNat).cell, 0, 0, (nth .row w.rows (k8 w.rows e.pos).toNat).ord, ⟨0, 0, ⟨0, 0, 0, 0, 0⟩, 0⟩, ⟨0, 0, ⟨0, 0, 0, 0, 0⟩⟩⟩] = u3 w e := by
 unfold u3
 rw [if_neg (by omega), if_neg (by omega), if_pos hk]
 unfold Q2
 have hc : 0 ≤ k8 w.rows e.pos ∧ (Mo.rowAt w.rows e.pos).busy = true ∧ n4 w.table (Mo.rowAt w.rows e.pos).cell ≠ -1 := by
  rw [Mo.rowAt]
  exact ⟨by omega, h2, h3⟩
 rw [if_pos hc, if_pos rfl, Mo.rowAt]
 rfl
theorem st3n (hk : e.kind = 3) (h : k8 w.rows e.pos < 0 ∨ (nth .row w.rows (k8 w.rows e.pos).toNat).busy = false ∨ n4 w.table (nth .row w.rows (k8 w.rows e.pos).toNat).cell = -1) : w = u3 w e := by
 unfold u3
 rw [if_neg (by omega), if_neg (by omega), if_pos hk]
 unfold Q2
 have hc : ¬ (0 ≤ k8 w.rows e.pos ∧ (Mo.rowAt w.rows e.pos).busy = true ∧ n4 w.table (Mo.rowAt w.rows e.pos).cell ≠ -1) := by
  rintro ⟨h1, h2, h3⟩
  rw [Mo.rowAt] at h2 h3
  rcases h with h | h | h
  ·omega
  ·rw [h] at h2
   cases h2
  ·exact h3 h
 rw [if_neg hc, if_neg (by simp)]
theorem st4 (hk : e.kind = 4) (hp : 0 ≤ e.pos ∧ e.pos < (w.net.length : Int)) : Q8 w e.pos.toNat = u3 w e := by
 unfold u3
 rw [if_neg (by omega), if_neg (by omega), if_neg (by omega), if_pos (by omega), if_pos hp, if_pos hk]
theorem st5 (hk : e.kind = 5) (hp : 0 ≤ e.pos ∧ e.pos < (w.net.length : Int)) : (⟨w.map, w.servers, w.stores, w.table, w.rows, w.net.eraseIdx e.pos.toNat, w.notes⟩ : Wld) = u3 w e := by
 unfold u3
 rw [if_neg (by omega), if_neg (by omega), if_neg (by omega), if_pos (by omega), if_pos hp, if_neg (by omega), if_pos hk]
 rfl
theorem st6 (hk : e.kind = 6) (hp : 0 ≤ e.pos ∧ e.pos < (w.net.length : Int)) : u4 w [nth .msg w.net e.pos.toNat] = u3 w e := by
 unfold u3
 rw [if_neg (by omega), if_neg (by omega), if_neg (by omega), if_pos (by omega), if_pos hp, if_neg (by omega), if_neg (by omega)]
theorem st7 (hk : e.kind = 7) (hp : 0 ≤ e.pos ∧ e.pos < (w.servers.length : Int)) : u4 w (A8 w.map (nth .srv w.servers e.pos.toNat) w.table e.dest) = u3 w e := by
 unfold u3
 rw [if_neg (by omega), if_neg (by omega), if_neg (by omega), if_neg (by omega), if_pos (by omega), if_pos hp, if_pos hk]
theorem st8 (hk : e.kind = 8) (hp : 0 ≤ e.pos ∧ e.pos < (w.servers.length : Int)) : (⟨w.map, y9 .srv (fun _ => w.servers) (fun _ => e.pos) (fun _ => (⟨false, [], []⟩ : Srv)) (), w.stores, w.table, w.rows, w.net, w.notes⟩ : Wld) = u3 w e := by
 unfold u3
 rw [if_neg (by omega), if_neg (by omega), if_neg (by omega), if_neg (by omega), if_pos (by omega), if_pos hp, if_neg (by omega), if_pos hk]
 rfl
theorem st9 (hk : e.kind = 9) (hp : 0 ≤ e.pos ∧ e.pos < (w.servers.length : Int)) (hu : (nth .srv w.servers e.pos.toNat).up = false) : (⟨w.map, y9 .srv (fun _ => w.servers) (fun _ => e.pos) (fun _ => (⟨true, [], []⟩ : Srv)) (), w.stores, w.table, w.rows, w.net, w.notes⟩ : Wld) = u3 w e := by
 unfold u3
 rw [if_neg (by omega), if_neg (by omega), if_neg (by omega), if_neg (by omega), if_pos (by omega), if_pos hp, if_neg (by omega), if_neg (by omega), if_pos hu]
 rfl
theorem stn (h : ¬ (1 ≤ e.kind ∧ e.kind ≤ 9) ∨ (4 ≤ e.kind ∧ e.kind ≤ 6 ∧ ¬ (0 ≤ e.pos ∧ e.pos < (w.net.length : Int))) ∨ (7 ≤ e.kind ∧ e.kind ≤ 9 ∧ ¬ (0 ≤ e.pos ∧ e.pos < (w.servers.length : Int)))) : w = u3 w e := by
 unfold u3
 rcases h with h | h | h
 ·rw [if_neg (by omega), if_neg (by omega), if_neg (by omega), if_neg (by omega), if_neg (by omega)]
 ·rw [if_neg (by omega), if_neg (by omega), if_neg (by omega), if_pos (by omega), if_neg (by omega)]
 ·rw [if_neg (by omega), if_neg (by omega), if_neg (by omega), if_neg (by omega), if_pos (by omega), if_neg (by omega)]
theorem stn9 (hk : e.kind = 9) (hu : (nth .srv w.servers e.pos.toNat).up = true) : w = u3 w e := by
 unfold u3
 rw [if_neg (by omega), if_neg (by omega), if_neg (by omega), if_neg (by omega), if_pos (by omega)]
 split
 ·rw [if_neg (by omega), if_neg (by omega), if_neg (by simp [hu])]
 ·rfl
end
end Go.Proofs.YtkclfaldmghkeaaGreat
