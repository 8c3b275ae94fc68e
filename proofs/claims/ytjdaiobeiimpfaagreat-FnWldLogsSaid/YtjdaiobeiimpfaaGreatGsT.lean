/-
  Plain: the facts at the ends of a world's step.
-/
import Derived.Test.YtjdaiobeiimpfaaGreatGnJ
import Derived.Test.YtjdaiobeiimpfaaGreatGrS
import Derived.Test.YtjdaiobeiimpfaaGreatM7
set_option linter.unusedVariables false
set_option linter.unusedSimpArgs false
set_option maxHeartbeats 4000000
namespace Go.Proofs.YtjdaiobeiimpfaaGreat
open Go.Sx Go.Proofs Go.Mo
theorem tab_of {m : PMap} {t : Arb} {v : Int} (h : arbOk m t v = true) : tabB t v := by
 have h1 := arb_len h
 have h2 := plcOk_iff.1 h1.2.2.1
 refine ⟨by omega, by omega, by omega, by omega, fun k hk => ?_⟩
 have := arb_at h (k := k) (by omega)
 exact ⟨this.2.2.1, this.2.2.2.1⟩
theorem grant_in {t : Arb} {v c s : Int} (h : tabB t v) (hg : (arbGrant t v c s).ok = true) : 0 ≤ c ∧ c < ((arbGrant t v c s).t.ages.length : Int) := by
 obtain ⟨h1, -⟩ := h
 unfold arbGrant at hg ⊢
 split at hg
 ·rename_i hc
  rw [if_pos hc]
  simp only [List.length_set]
  omega
 ·cases hg
section
variable {w : Wld} {e : Evt} {x : Arb} {rows : List Row} {l : List Msg}
theorem st1 (hk : e.kind = 1) (hg : (arbGrant w.table w.servers.length e.pos e.dest).ok = true) : wSend ⟨w.map, w.servers, w.stores, (arbGrant w.table w.servers.length e.pos e.dest).t, w.rows, w.net, w.notes⟩ [⟨1, e.dest, e.pos, 0, nth .int (arbGrant w.table w.servers.length e.pos e.dest).t.ages e.pos.toNat, ⟨0, 0, 0, 0, 0⟩, ⟨0, 0, ⟨0, 0, 0, 0, 0⟩, 0⟩, ⟨0, 0, ⟨0, 0, 0, 0, 0⟩⟩⟩] = wStep w e := by
 unfold wStep
 rw [if_pos hk]
 simp only [hg, if_true]
 rfl
theorem st1n (hk : e.kind = 1) (hg : (arbGrant w.table w.servers.length e.pos e.dest).ok = false) : (⟨w.map, w.servers, w.stores, (arbGrant w.table w.servers.length e.pos e.dest).t, w.rows, w.net, w.notes⟩ : Wld) = wStep w e := by
 unfold wStep
 rw [if_pos hk]
 simp only [hg]
 rw [if_neg (by simp)]
 unfold arbGrant at hg ⊢
 split at hg
 ·cases hg
 ·rename_i hc
  rw [if_neg hc]
theorem st2 (hk : e.kind = 2) : (⟨w.map, w.servers, w.stores, w.table, (gwyAsk w.rows e.pos e.what e.dest e.n).b, w.net, w.notes⟩ : Wld) = wStep w e := by
 unfold wStep
 rw [if_neg (by omega), if_pos hk]
theorem st3 (hk : e.kind = 3) (h1 : ¬ rowPlace w.rows e.pos < 0) (h2 : (nth .row w.rows (rowPlace w.rows e.pos).toNat).busy = true) (h3 : ¬ arbServer w.table (nth .row w.rows (rowPlace w.rows e.pos).toNat).cell = -1) :
  wSend w [⟨2, arbServer w.table (nth .row w.rows (rowPlace w.rows e.pos).toNat).cell, (nth .row w.rows (rowPlace w.rows e.pos).toNat).cell, 0, 0, (nth .row w.rows (rowPlace w.rows e.pos).toNat).ord, ⟨0, 0, ⟨0, 0, 0, 0, 0⟩, 0⟩, ⟨0, 0, ⟨0, 0, 0, 0, 0⟩⟩⟩] = wStep w e := by
 unfold wStep
 rw [if_neg (by omega), if_neg (by omega), if_pos hk]
 unfold gwySay
 have hc : 0 ≤ rowPlace w.rows e.pos ∧ (Mo.rowAt w.rows e.pos).busy = true ∧ arbServer w.table (Mo.rowAt w.rows e.pos).cell ≠ -1 := by
  rw [Mo.rowAt]
  exact ⟨by omega, h2, h3⟩
 rw [if_pos hc, if_pos rfl, Mo.rowAt]
 rfl
theorem st3n (hk : e.kind = 3) (h : rowPlace w.rows e.pos < 0 ∨ (nth .row w.rows (rowPlace w.rows e.pos).toNat).busy = false ∨ arbServer w.table (nth .row w.rows (rowPlace w.rows e.pos).toNat).cell = -1) : w = wStep w e := by
 unfold wStep
 rw [if_neg (by omega), if_neg (by omega), if_pos hk]
 unfold gwySay
 have hc : ¬ (0 ≤ rowPlace w.rows e.pos ∧ (Mo.rowAt w.rows e.pos).busy = true ∧ arbServer w.table (Mo.rowAt w.rows e.pos).cell ≠ -1) := by
  rintro ⟨h1, h2, h3⟩
  rw [Mo.rowAt] at h2 h3
  rcases h with h | h | h
  ·omega
  ·rw [h] at h2
   cases h2
  ·exact h3 h
 rw [if_neg hc, if_neg (by simp)]
theorem st4 (hk : e.kind = 4) (hp : 0 ≤ e.pos ∧ e.pos < (w.net.length : Int)) : wBring w e.pos.toNat = wStep w e := by
 unfold wStep
 rw [if_neg (by omega), if_neg (by omega), if_neg (by omega), if_pos (by omega), if_pos hp, if_pos hk]
theorem st5 (hk : e.kind = 5) (hp : 0 ≤ e.pos ∧ e.pos < (w.net.length : Int)) : (⟨w.map, w.servers, w.stores, w.table, w.rows, w.net.eraseIdx e.pos.toNat, w.notes⟩ : Wld) = wStep w e := by
 unfold wStep
 rw [if_neg (by omega), if_neg (by omega), if_neg (by omega), if_pos (by omega), if_pos hp, if_neg (by omega), if_pos hk]
 rfl
theorem st6 (hk : e.kind = 6) (hp : 0 ≤ e.pos ∧ e.pos < (w.net.length : Int)) : wSend w [nth .msg w.net e.pos.toNat] = wStep w e := by
 unfold wStep
 rw [if_neg (by omega), if_neg (by omega), if_neg (by omega), if_pos (by omega), if_pos hp, if_neg (by omega), if_neg (by omega)]
theorem st7 (hk : e.kind = 7) (hp : 0 ≤ e.pos ∧ e.pos < (w.servers.length : Int)) : wSend w (srvTick w.map (nth .srv w.servers e.pos.toNat) w.table e.dest) = wStep w e := by
 unfold wStep
 rw [if_neg (by omega), if_neg (by omega), if_neg (by omega), if_neg (by omega), if_pos (by omega), if_pos hp, if_pos hk]
theorem st8 (hk : e.kind = 8) (hp : 0 ≤ e.pos ∧ e.pos < (w.servers.length : Int)) : (⟨w.map, setNth .srv (fun _ => w.servers) (fun _ => e.pos) (fun _ => (⟨false, [], []⟩ : Srv)) (), w.stores, w.table, w.rows, w.net, w.notes⟩ : Wld) = wStep w e := by
 unfold wStep
 rw [if_neg (by omega), if_neg (by omega), if_neg (by omega), if_neg (by omega), if_pos (by omega), if_pos hp, if_neg (by omega), if_pos hk]
 rfl
theorem st9 (hk : e.kind = 9) (hp : 0 ≤ e.pos ∧ e.pos < (w.servers.length : Int)) (hu : (nth .srv w.servers e.pos.toNat).up = false) : (⟨w.map, setNth .srv (fun _ => w.servers) (fun _ => e.pos) (fun _ => (⟨true, [], []⟩ : Srv)) (), w.stores, w.table, w.rows, w.net, w.notes⟩ : Wld) = wStep w e := by
 unfold wStep
 rw [if_neg (by omega), if_neg (by omega), if_neg (by omega), if_neg (by omega), if_pos (by omega), if_pos hp, if_neg (by omega), if_neg (by omega), if_pos hu]
 rfl
theorem stn (h : ¬ (1 ≤ e.kind ∧ e.kind ≤ 9) ∨ (4 ≤ e.kind ∧ e.kind ≤ 6 ∧ ¬ (0 ≤ e.pos ∧ e.pos < (w.net.length : Int))) ∨ (7 ≤ e.kind ∧ e.kind ≤ 9 ∧ ¬ (0 ≤ e.pos ∧ e.pos < (w.servers.length : Int)))) : w = wStep w e := by
 unfold wStep
 rcases h with h | h | h
 ·rw [if_neg (by omega), if_neg (by omega), if_neg (by omega), if_neg (by omega), if_neg (by omega)]
 ·rw [if_neg (by omega), if_neg (by omega), if_neg (by omega), if_pos (by omega), if_neg (by omega)]
 ·rw [if_neg (by omega), if_neg (by omega), if_neg (by omega), if_neg (by omega), if_pos (by omega), if_neg (by omega)]
theorem stn9 (hk : e.kind = 9) (hu : (nth .srv w.servers e.pos.toNat).up = true) : w = wStep w e := by
 unfold wStep
 rw [if_neg (by omega), if_neg (by omega), if_neg (by omega), if_neg (by omega), if_pos (by omega)]
 split
 ·rw [if_neg (by omega), if_neg (by omega), if_neg (by simp [hu])]
 ·rfl
end
end Go.Proofs.YtjdaiobeiimpfaaGreat
