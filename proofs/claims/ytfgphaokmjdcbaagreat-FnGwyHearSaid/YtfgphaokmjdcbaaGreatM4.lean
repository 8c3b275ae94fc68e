/-
  Plain laws: a message is heard by the book, and heard again.
-/
import Derived.Test.YtfgphaokmjdcbaaGreatM3
set_option linter.unusedVariables false
set_option linter.unusedSimpArgs false
namespace Go.Mo
open Go.Sx

theorem hearX_bad {m : PMap} {l : List Row} {v : Int} {x : Msg} (h : ¬ (gwyOk m l = true ∧ msgOk m v x = true)) : gwyHearX m l v x = ⟨[], false⟩ := by
  rw [gwyHearX, if_neg h]
theorem hearX_ok {m : PMap} {l : List Row} {v : Int} {x : Msg} (h1 : gwyOk m l = true) (h2 : msgOk m v x = true) : gwyHearX m l v x = gwyHear m l x := by
  rw [gwyHearX, if_pos ⟨h1, h2⟩]
theorem hearX_len {m : PMap} {l : List Row} {v : Int} {x : Msg} (h1 : gwyOk m l = true) (h2 : msgOk m v x = true) : (gwyHearX m l v x).b.length = l.length ∧ gwyOk m (gwyHearX m l v x).b = true := by
  rw [hearX_ok h1 h2]
  exact ⟨(gwyHear_ok h1 h2).2.1, (gwyHear_ok h1 h2).1⟩
theorem hear_rows {m : PMap} {l : List Row} {v : Int} {x : Msg} (h1 : gwyOk m l = true) (h2 : msgOk m v x = true) {i : Nat} (hi : i < l.length) :
    (((nth .row l i).who ≠ x.ord.who ∨ (nth .row l i).busy = false ∨ (nth .row l i).ord ≠ x.ord) → nth .row (gwyHear m l x).b i = nth .row l i) ∧
    ((gwyHear m l x).ok = true → (nth .row l i).who = x.ord.who → (nth .row (gwyHear m l x).b i).busy = false ∧ (nth .row (gwyHear m l x).b i).seq = (nth .row l i).seq + 1 ∧ (nth .row (gwyHear m l x).b i).code = x.n ∧ x.kind = 3) ∧
    ((gwyHear m l x).ok = false → nth .row (gwyHear m l x).b i ≠ nth .row l i → x.kind = 4 ∧ (nth .row (gwyHear m l x).b i).cell = ((nth .row l i).cell + 1).tmod m.cells ∧ (nth .row (gwyHear m l x).b i).busy = true ∧ (nth .row (gwyHear m l x).b i).ord = (nth .row l i).ord) := by
  have hlt := row_lt l x.ord.who
  have hr := (gwy_at h1 hi).1
  simp only [rowOk, decide_eq_true_eq] at hr
  unfold gwyHear
  by_cases hc : 0 ≤ rowPlace l x.ord.who ∧ (rowAt l x.ord.who).busy = true ∧ (rowAt l x.ord.who).ord = x.ord
  · have hww := row_who hc.1
    have hpi : (nth .row l i).who = x.ord.who → i = (rowPlace l x.ord.who).toNat := fun hw => by have := place_eq h1 hi hw; omega
    simp only [if_pos hc]
    by_cases h3 : x.kind = 3
    · simp only [if_pos h3]
      rw [set_nth .row (by omega)]
      by_cases hij : i = (rowPlace l x.ord.who).toNat
      · rw [if_pos hij]
        have hb : (nth .row l i).busy = true := by rw [hij]; exact hc.2.1
        have ho : (nth .row l i).ord = x.ord := by rw [hij]; exact hc.2.2
        have hw : (nth .row l i).who = x.ord.who := by rw [hij]; exact hww
        refine ⟨fun hne => ?_, fun _ _ => ⟨rfl, ?_, rfl, h3⟩, fun hf => by cases hf⟩
        · rcases hne with hne | hne | hne
          · exact absurd hw hne
          · rw [hb] at hne; cases hne
          · exact absurd ho hne
        · have := (hr.2.2.2.2.2.2.2.2.2 hb).2.2
          rw [ho] at this
          exact this
      · rw [if_neg hij]
        exact ⟨fun _ => rfl, fun _ hw => absurd (hpi hw) hij, fun hf => by cases hf⟩
    · simp only [if_neg h3]
      by_cases h4 : x.kind = 4 ∧ x.cell = (rowAt l x.ord.who).cell
      · simp only [if_pos h4]
        rw [set_nth .row (by omega)]
        by_cases hij : i = (rowPlace l x.ord.who).toNat
        · rw [if_pos hij]
          have hb : (nth .row l i).busy = true := by rw [hij]; exact hc.2.1
          have ho : (nth .row l i).ord = x.ord := by rw [hij]; exact hc.2.2
          have hw : (nth .row l i).who = x.ord.who := by rw [hij]; exact hww
          refine ⟨fun hne => ?_, (fun hf => by cases hf), fun _ _ => ⟨h4.1, ?_, hc.2.1, ?_⟩⟩
          · rcases hne with hne | hne | hne
            · exact absurd hw hne
            · rw [hb] at hne; cases hne
            · exact absurd ho hne
          · rw [hij]; rfl
          · rw [hij]; rfl
        · rw [if_neg hij]
          exact ⟨fun _ => rfl, (fun hf => by cases hf), fun _ hne => absurd rfl hne⟩
      · simp only [if_neg h4]
        simp
  · simp only [if_neg hc]
    simp
theorem hear_again {m : PMap} {l : List Row} {v : Int} {x : Msg} (h1 : gwyOk m l = true) (h2 : msgOk m v x = true) (ho : (gwyHear m l x).ok = true) : gwyHear m (gwyHear m l x).b x = ⟨(gwyHear m l x).b, false⟩ := by
  obtain ⟨g1, g2, g3⟩ := gwyHear_ok h1 h2
  obtain ⟨k3, p0, pb, po, _⟩ := g3 ho
  have hlt := row_lt l x.ord.who
  have hww := row_who p0
  have hrow := (hear_rows h1 h2 (i := (rowPlace l x.ord.who).toNat) (by omega)).2.1 ho hww
  have hw2 : (nth .row (gwyHear m l x).b (rowPlace l x.ord.who).toNat).who = x.ord.who := by
    unfold gwyHear
    simp only [if_pos (show 0 ≤ rowPlace l x.ord.who ∧ (rowAt l x.ord.who).busy = true ∧ (rowAt l x.ord.who).ord = x.ord from ⟨p0, pb, po⟩), if_pos k3]
    rw [set_nth .row (by omega), if_pos rfl]
    exact hww
  have hp := place_eq (who := x.ord.who) (k := (rowPlace l x.ord.who).toNat) g1 (by rw [g2]; omega) hw2
  generalize hX : (gwyHear m l x).b = X at *
  rw [gwyHear]
  simp only [rowAt, hp, Int.toNat_natCast]
  rw [if_neg (fun hc => by rw [hrow.1] at hc; cases hc.2.1)]
theorem hearX_again {m : PMap} {l : List Row} {v : Int} {x : Msg} (ho : (gwyHearX m l v x).ok = true) : gwyHearX m (gwyHearX m l v x).b v x = ⟨(gwyHearX m l v x).b, false⟩ := by
  by_cases hc : gwyOk m l = true ∧ msgOk m v x = true
  · rw [hearX_ok hc.1 hc.2] at ho ⊢
    rw [hearX_ok (gwyHear_ok hc.1 hc.2).1 hc.2]
    exact hear_again hc.1 hc.2 ho
  · rw [hearX_bad hc] at ho
    cases ho
theorem hearX_rows {m : PMap} {l : List Row} {v : Int} {x : Msg} (h1 : gwyOk m l = true) (h2 : msgOk m v x = true) {i : Nat} (hi : i < l.length) :
    (((nth .row l i).who ≠ x.ord.who ∨ (nth .row l i).busy = false ∨ (nth .row l i).ord ≠ x.ord) → nth .row (gwyHearX m l v x).b i = nth .row l i) ∧
    ((gwyHearX m l v x).ok = true → (nth .row l i).who = x.ord.who → (nth .row (gwyHearX m l v x).b i).busy = false ∧ (nth .row (gwyHearX m l v x).b i).seq = IntKind.i64.wrap ((nth .row l i).seq + 1) ∧ (nth .row (gwyHearX m l v x).b i).code = x.n ∧ x.kind = 3) ∧
    ((gwyHearX m l v x).ok = false → nth .row (gwyHearX m l v x).b i ≠ nth .row l i → x.kind = 4 ∧ (nth .row (gwyHearX m l v x).b i).cell = (IntKind.i64.wrap ((nth .row l i).cell + 1)).tmod m.cells ∧ (nth .row (gwyHearX m l v x).b i).busy = true ∧ (nth .row (gwyHearX m l v x).b i).ord = (nth .row l i).ord) := by
  have hr := (gwy_at h1 hi).1
  have hm : plcOk m = true := by rw [gwyOk, Bool.and_eq_true] at h1; exact h1.1
  rw [plcOk_iff] at hm
  simp only [rowOk, decide_eq_true_eq] at hr
  rw [hearX_ok h1 h2, wrap_id (n := (nth .row l i).seq + 1) (by omega) (by omega), wrap_id (n := (nth .row l i).cell + 1) (by omega) (by omega)]
  exact hear_rows h1 h2 hi
end Go.Mo
