/-
  Plain models: all that a server says of a cell is so.
-/
import Derived.Test.YtmonhpdodgonbaaGreatM3
set_option linter.unusedVariables false
set_option linter.unusedSimpArgs false
namespace Go.Mo
open Go.Sx

/-- What is so of a thing said. -/
structure Said (m : PMap) (s : Srv) (t : Arb) (v cell : Int) (z : Msg) : Prop where
  ok : msgOk m v z = true
  side : z.side = 0 ∨ z.side = 1
  at1 : z.cell = plcSide m cell (1 - z.side)
  lo : 0 ≤ z.cell
  hi : z.cell < (t.servers.length : Int)
  dest : z.dest = nth .int t.servers z.cell.toNat
  kind : z.kind = 5 ∨ z.kind = 7
  num : z.kind = 5 → 0 ≤ z.pcl.n - (nth .int (srvHold s cell).state.next (1 - z.side).toNat - (nth .pcls (srvHold s cell).state.outs (1 - z.side).toNat).length) ∧ z.pcl.n - (nth .int (srvHold s cell).state.next (1 - z.side).toNat - (nth .pcls (srvHold s cell).state.outs (1 - z.side).toNat).length) < (nth .pcls (srvHold s cell).state.outs (1 - z.side).toNat).length
  pcl : z.kind = 5 → nth .pcl (nth .pcls (srvHold s cell).state.outs (1 - z.side).toNat) (z.pcl.n - (nth .int (srvHold s cell).state.next (1 - z.side).toNat - (nth .pcls (srvHold s cell).state.outs (1 - z.side).toNat).length)).toNat = z.pcl
  gst : z.kind = 7 → z.gst.count = (srvHold s cell).count ∧ z.gst.src = cell
  bnd : 0 ≤ nth .int (srvHold s cell).state.next (1 - z.side).toNat ∧ nth .int (srvHold s cell).state.next (1 - z.side).toNat ≤ 5000 ∧ ((nth .pcls (srvHold s cell).state.outs (1 - z.side).toNat).length : Int) ≤ nth .int (srvHold s cell).state.next (1 - z.side).toNat ∧ (srvHold s cell).state.outs.length = 2 ∧ (srvHold s cell).state.next.length = 2
theorem tick_said {m : PMap} {s : Srv} {t : Arb} {v cell : Int} (hs : srvOk m s = true) (ht : arbOk m t v = true) : ∀ z ∈ srvTick m s t cell, Said m s t v cell z := by
  intro z hz
  obtain ⟨hok, hkd⟩ := tick_ok hs ht z hz
  have hz0 := hz
  unfold srvTick at hz
  split at hz
  rotate_left
  · simp at hz
  rename_i hh
  obtain ⟨hm, hc⟩ := srvHold_mem hh
  have hho := (srvOk_iff.1 hs).2.2.1 _ hm
  have hco := (hldOk_iff.1 hho).2.2
  have hcf := cllOk_facts hco
  have go : ∀ side : Nat, side < 2 → z ∈ tickSide m t (srvHold s cell) cell side → Said m s t v cell z := by
    intro side hsd hz
    unfold tickSide at hz
    simp only at hz
    split at hz
    · simp at hz
    rename_i hne
    have hn2 : arbServer t (plcSide m cell side) ≠ -1 := fun e => hne (.inr e)
    have harb : 0 ≤ plcSide m cell side ∧ plcSide m cell side < (t.servers.length : Int) := by
      by_cases hq : 0 ≤ plcSide m cell side ∧ plcSide m cell side < (t.servers.length : Int)
      · exact hq
      · exact absurd (by unfold arbServer; rw [if_neg hq]) hn2
    have hd : arbServer t (plcSide m cell side) = nth .int t.servers (plcSide m cell side).toNat := by unfold arbServer; rw [if_pos harb]
    have hl := (cllOk_side hco hsd).2.2.2
    have hli := pclListOk_iff.1 hl
    have e1 : (1 - (1 - (side : Int))) = side := by omega
    have e2 : (1 - (1 - (side : Int))).toNat = side := by omega
    have hs1 : (1 - (side : Int) = 0 ∨ 1 - (side : Int) = 1) := by omega
    rcases List.mem_append.1 hz with hz | hz
    · obtain ⟨p, hp, rfl⟩ := List.mem_map.1 hz
      have hp := List.mem_of_mem_take hp
      rw [Int.toNat_natCast] at hp
      obtain ⟨i, hi, rfl⟩ := nth_of_mem .pcl hp
      have hnum := (hli.2.2.2.2 i hi).2
      refine ⟨hok, hs1, ?_, harb.1, harb.2, hd, .inl rfl, fun _ => ?_, fun _ => ?_, fun hk => ?_, ?_⟩
      · show plcSide m cell side = plcSide m cell (1 - (1 - (side : Int)))
        rw [e1]
      · show 0 ≤ (nth .pcl (nth .pcls (srvHold s cell).state.outs side) i).n - (nth .int (srvHold s cell).state.next (1 - (1 - (side : Int))).toNat - (nth .pcls (srvHold s cell).state.outs (1 - (1 - (side : Int))).toNat).length) ∧ (nth .pcl (nth .pcls (srvHold s cell).state.outs side) i).n - (nth .int (srvHold s cell).state.next (1 - (1 - (side : Int))).toNat - (nth .pcls (srvHold s cell).state.outs (1 - (1 - (side : Int))).toNat).length) < (nth .pcls (srvHold s cell).state.outs (1 - (1 - (side : Int))).toNat).length
        rw [e2, hnum]
        omega
      · show nth .pcl (nth .pcls (srvHold s cell).state.outs (1 - (1 - (side : Int))).toNat) ((nth .pcl (nth .pcls (srvHold s cell).state.outs side) i).n - (nth .int (srvHold s cell).state.next (1 - (1 - (side : Int))).toNat - (nth .pcls (srvHold s cell).state.outs (1 - (1 - (side : Int))).toNat).length)).toNat = nth .pcl (nth .pcls (srvHold s cell).state.outs side) i
        rw [e2, hnum]
        congr 1
        omega
      · exact absurd (show (5 : Int) = 7 from hk) (by decide)
      · show 0 ≤ nth .int (srvHold s cell).state.next (1 - (1 - (side : Int))).toNat ∧ nth .int (srvHold s cell).state.next (1 - (1 - (side : Int))).toNat ≤ 5000 ∧ ((nth .pcls (srvHold s cell).state.outs (1 - (1 - (side : Int))).toNat).length : Int) ≤ nth .int (srvHold s cell).state.next (1 - (1 - (side : Int))).toNat ∧ _
        rw [e2]
        exact ⟨hli.2.1, hli.2.2.1, hli.2.2.2.1, hcf.2.2.2.2.2.2.1, hcf.2.2.2.2.2.2.2.1⟩
    · obtain ⟨g, hg, rfl⟩ := List.mem_map.1 hz
      have hg := List.mem_of_mem_take hg
      unfold ghosts ghTo at hg
      obtain ⟨w, hw, rfl⟩ := List.mem_map.1 hg
      refine ⟨hok, hs1, ?_, harb.1, harb.2, hd, .inr rfl, fun hk => ?_, fun hk => ?_, fun _ => ⟨rfl, hc⟩, ?_⟩
      · show plcSide m cell side = plcSide m cell (1 - (1 - (side : Int)))
        rw [e1]
      · exact absurd (show (7 : Int) = 5 from hk) (by decide)
      · exact absurd (show (7 : Int) = 5 from hk) (by decide)
      · show 0 ≤ nth .int (srvHold s cell).state.next (1 - (1 - (side : Int))).toNat ∧ nth .int (srvHold s cell).state.next (1 - (1 - (side : Int))).toNat ≤ 5000 ∧ ((nth .pcls (srvHold s cell).state.outs (1 - (1 - (side : Int))).toNat).length : Int) ≤ nth .int (srvHold s cell).state.next (1 - (1 - (side : Int))).toNat ∧ _
        rw [e2]
        exact ⟨hli.2.1, hli.2.2.1, hli.2.2.2.1, hcf.2.2.2.2.2.2.1, hcf.2.2.2.2.2.2.2.1⟩
  rcases List.mem_append.1 hz with hz | hz
  · exact go 0 (by omega) hz
  · exact go 1 (by omega) hz
theorem tick_len {m : PMap} {s : Srv} {t : Arb} {cell : Int} : (srvTick m s t cell).length ≤ 16 := by
  unfold srvTick
  split
  · rename_i hh
    have := tkTo_len m t (srvHold s cell) cell 2
    rw [tkTo_two hh] at this
    unfold srvTick at this
    rw [if_pos hh] at this
    omega
  · simp
end Go.Mo
