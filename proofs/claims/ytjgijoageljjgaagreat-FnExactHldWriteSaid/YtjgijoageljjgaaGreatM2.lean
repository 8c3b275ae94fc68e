/-
  Plain models: a walker put among others.
-/
import Derived.Test.YtjgijoageljjgaaGreatM1
import Derived.Test.YtjgijoageljjgaaGreatS5
set_option linter.unusedVariables false
set_option linter.unusedSimpArgs false
namespace Go.Mo
open Go.Sx

def above (id : Int) (w : Wlk) : Bool := decide (id < w.id)
def nab (l : List Wlk) (id : Int) (j : Nat) : Bool := !above id (nth .wlk l j)
/-- The place of the first one above, or the end. -/
def putPos (l : List Wlk) (id : Int) : Nat := if idx (above id) l < 0 then l.length else (idx (above id) l).toNat
def wlkPut (l : List Wlk) (w : Wlk) : List Wlk := insL (wlkOut l w.id) (putPos (wlkOut l w.id) w.id) [w]
theorem above_lt (l : List Wlk) (id : Int) : -1 ≤ idx (above id) l ∧ idx (above id) l < l.length := by
  rcases idx_cases (above id) l with ⟨h, _⟩ | ⟨k, hk, h, _⟩ <;> rw [h] <;> omega
theorem putPos_le (l : List Wlk) (id : Int) : putPos l id ≤ l.length := by
  have := above_lt l id
  unfold putPos
  split <;> omega
theorem above_at {l : List Wlk} {id : Int} {k : Nat} (h : allTo k (nab l id) = true) (hk : k < l.length) (hi : id < (nth .wlk l k).id) : idx (above id) l = k := by
  rw [nth_lt .wlk l k hk] at hi
  refine idx_at hk (by simp [above, hi]) fun j hj => ?_
  have := (allTo_iff k _).1 h j hj
  simp only [nab, Bool.not_eq_true'] at this
  rw [nth_lt .wlk l j (by omega)] at this
  exact this
theorem above_none {l : List Wlk} {id : Int} {k : Nat} (h : allTo k (nab l id) = true) (hk : k = l.length) : idx (above id) l = -1 := by
  subst hk
  refine idx_none fun j hj => ?_
  have := (allTo_iff _ _).1 h j hj
  simp only [nab, Bool.not_eq_true'] at this
  rw [nth_lt .wlk l j hj] at this
  exact this
/-- So far. -/
def putTo (l : List Wlk) (w : Wlk) (k : Nat) : List Wlk := if putPos l w.id < k then insL (l.take k) (putPos l w.id) [w] else l.take k
def putDone (l : List Wlk) (w : Wlk) (k : Nat) : Bool := decide (putPos l w.id < k)
theorem putTo_zero (l : List Wlk) (w : Wlk) : putTo l w 0 = [] := by simp [putTo]
theorem putTo_len (l : List Wlk) (w : Wlk) (k : Nat) : (putTo l w k).length ≤ k + 1 := by
  unfold putTo
  split
  · simp [insL]; omega
  · simp; omega
theorem putTo_len2 {l : List Wlk} {w : Wlk} {k : Nat} (h : putDone l w k = false) : (putTo l w k).length ≤ k := by
  simp only [putDone, decide_eq_false_iff_not] at h
  unfold putTo
  rw [if_neg h, List.length_take]
  omega
theorem take_snoc' {l : List Wlk} {k : Nat} (h : k < l.length) : l.take (k + 1) = l.take k ++ [nth .wlk l k] := take_snoc .wlk l k h
theorem putTo_after {l : List Wlk} {w : Wlk} {k : Nat} (h : k < l.length) (hd : putDone l w k = true) : putTo l w (k + 1) = putTo l w k ++ [nth .wlk l k] := by
  simp only [putDone, decide_eq_true_eq] at hd
  unfold putTo
  rw [if_pos (by omega), if_pos hd, take_snoc' h]
  simp only [insL]
  rw [List.take_append_of_le_length (by rw [List.length_take]; omega), List.drop_append_of_le_length (by rw [List.length_take]; omega)]
  simp
theorem putTo_here {l : List Wlk} {w : Wlk} {k : Nat} (h : k < l.length) (hd : putDone l w k = false) (hi : w.id < (nth .wlk l k).id) : putPos l w.id = k → putTo l w (k + 1) = putTo l w k ++ [w] ++ [nth .wlk l k] := by
  intro hp
  unfold putTo
  rw [if_pos (by omega), if_neg (by omega), take_snoc' h, hp]
  simp only [insL]
  rw [List.take_append_of_le_length (by rw [List.length_take]; omega), List.drop_append_of_le_length (by rw [List.length_take]; omega)]
  simp [List.take_take]
theorem putTo_before {l : List Wlk} {w : Wlk} {k : Nat} (h : k < l.length) (hp : ¬ putPos l w.id < k + 1) : putTo l w (k + 1) = putTo l w k ++ [nth .wlk l k] := by
  unfold putTo
  rw [if_neg hp, if_neg (by omega), take_snoc' h]
theorem nab_pos {l : List Wlk} {id : Int} {k : Nat} (hk : k ≤ l.length) : ¬ putPos l id < k → allTo k (nab l id) = true := by
  intro h
  rw [allTo_iff]
  intro j hj
  simp only [nab, Bool.not_eq_true']
  rcases idx_cases (above id) l with ⟨_, h2⟩ | ⟨i, hi, h1, h2, h3⟩
  · rw [nth_lt .wlk l j (by omega)]
    exact h2 _ (List.getElem_mem _)
  · unfold putPos at h
    rw [h1, if_neg (by omega)] at h
    rw [nth_lt .wlk l j (by omega)]
    exact h3 j (by omega)
theorem putPos_here {l : List Wlk} {w : Wlk} {k : Nat} (h : k < l.length) (hd : putDone l w k = false) (hi : w.id < (nth .wlk l k).id) : putPos l w.id = k := by
  simp only [putDone, decide_eq_false_iff_not] at hd
  have := above_at (nab_pos (by omega) hd) h hi
  unfold putPos
  rw [this, if_neg (by omega)]
  rfl
theorem putPos_not {l : List Wlk} {w : Wlk} {k : Nat} (h : k < l.length) (hd : putDone l w k = false) (hi : ¬ w.id < (nth .wlk l k).id) : ¬ putPos l w.id < k + 1 := by
  simp only [putDone, decide_eq_false_iff_not] at hd
  intro hlt
  have he : putPos l w.id = k := by omega
  rcases idx_cases (above w.id) l with ⟨h1, h2⟩ | ⟨i, hi', h1, h2, h3⟩
  · unfold putPos at he
    rw [h1] at he
    simp at he
    omega
  · unfold putPos at he
    rw [h1, if_neg (by omega)] at he
    have : i = k := by omega
    subst this
    rw [nth_lt .wlk l i h] at hi
    simp [above] at h2
    exact hi h2
/-- One round. -/
theorem putTo_succ1 {l : List Wlk} {w : Wlk} {k : Nat} (h : k < l.length) (hd : putDone l w k = false) (hi : w.id < (nth .wlk l k).id) : putTo l w (k + 1) = putTo l w k ++ [w] ++ [nth .wlk l k] ∧ putDone l w (k + 1) = true := by
  have hp := putPos_here h hd hi
  exact ⟨putTo_here h hd hi hp, by simp [putDone, hp]⟩
theorem putTo_succ2 {l : List Wlk} {w : Wlk} {k : Nat} (h : k < l.length) (hd : putDone l w k = false) (hi : ¬ w.id < (nth .wlk l k).id) : putTo l w (k + 1) = putTo l w k ++ [nth .wlk l k] ∧ putDone l w (k + 1) = false := by
  have hp := putPos_not h hd hi
  exact ⟨putTo_before h hp, by simp [putDone]; omega⟩
theorem putTo_succ3 {l : List Wlk} {w : Wlk} {k : Nat} (h : k < l.length) (hd : putDone l w k = true) : putTo l w (k + 1) = putTo l w k ++ [nth .wlk l k] ∧ putDone l w (k + 1) = true := by
  refine ⟨putTo_after h hd, ?_⟩
  simp only [putDone, decide_eq_true_eq] at hd ⊢
  omega
theorem putTo_end1 {l : List Wlk} {w : Wlk} {k : Nat} (h : k = l.length) (hd : putDone l w k = true) : putTo l w k = insL l (putPos l w.id) [w] := by
  simp only [putDone, decide_eq_true_eq] at hd
  subst h
  unfold putTo
  rw [if_pos hd]
  simp
theorem putTo_end2 {l : List Wlk} {w : Wlk} {k : Nat} (h : k = l.length) (hd : putDone l w k = false) : putTo l w k ++ [w] = insL l (putPos l w.id) [w] := by
  simp only [putDone, decide_eq_false_iff_not] at hd
  have h2 := putPos_le l w.id
  have h3 : putPos l w.id = l.length := by omega
  subst h
  unfold putTo
  rw [if_neg hd, h3]
  simp [insL]
theorem putDone_succ1 {l : List Wlk} {w : Wlk} {k : Nat} (h : k < l.length) (hd : putDone l w k = false) (hi : w.id < (nth .wlk l k).id) : putDone l w (k + 1) = true := (putTo_succ1 h hd hi).2
theorem putDone_succ2 {l : List Wlk} {w : Wlk} {k : Nat} (h : k < l.length) (hd : putDone l w k = false) (hi : ¬ w.id < (nth .wlk l k).id) : putDone l w (k + 1) = false := (putTo_succ2 h hd hi).2
theorem putDone_succ3 {l : List Wlk} {w : Wlk} {k : Nat} (h : k < l.length) (hd : putDone l w k = true) : putDone l w (k + 1) = true := (putTo_succ3 h hd).2
theorem putDone_zero (l : List Wlk) (w : Wlk) : putDone l w 0 = false := by simp [putDone]
theorem wlkPut_eq (l : List Wlk) (w : Wlk) : wlkPut l w = insL (wlkOut l w.id) (putPos (wlkOut l w.id) w.id) [w] := rfl
theorem wlkOut_len (l : List Wlk) (id : Int) : (wlkOut l id).length ≤ l.length := List.length_filter_le _ _
theorem wlkPut_len (l : List Wlk) (w : Wlk) : (wlkPut l w).length ≤ l.length + 1 := by
  have := wlkOut_len l w.id
  rw [wlkPut, insL_len (putPos_le _ _)]
  simp; omega

end Go.Mo

/-
  Plain models: records, parcels that come, the same cell walked by the document.
-/
namespace Go.Mo
open Go.Sx

def zeroO (o : Ord) : Bool := decide (o.who = 0 ∧ o.seq = 0 ∧ o.kind = 0 ∧ o.dest = 0 ∧ o.n = 0)
def zeroP (p : Pcl) : Bool := decide (p.n = 0 ∧ p.kind = 0 ∧ zeroW p.wlk = true ∧ p.coins = 0)
def recFormed (r : Rec) : Bool := decide ((r.kind = 1 ∧ ordOk r.ord = true ∧ r.side = 0 ∧ zeroP r.pcl = true ∧ r.n = 0) ∨ (r.kind = 2 ∧ (r.side = 0 ∨ r.side = 1) ∧ zeroO r.ord = true ∧ r.n = 0) ∨
  (r.kind = 3 ∧ (r.side = 0 ∨ r.side = 1) ∧ 1 ≤ r.n ∧ r.n ≤ 5000 ∧ zeroO r.ord = true ∧ zeroP r.pcl = true))
def logOk (m : PMap) (r : Rec) : Bool := decide (plcOk m = true ∧ recFormed r = true ∧ (r.kind = 2 → pclOk m r.pcl = true))
theorem pclOk_iff {m : PMap} {p : Pcl} : pclOk m p = true ↔ plcOk m = true ∧ 0 ≤ p.n ∧ p.n ≤ 4999 ∧ (p.kind = 1 ∧ wlkOk m p.wlk = true ∧ p.coins = 0 ∨ p.kind = 2 ∧ zeroW p.wlk = true ∧ 1 ≤ p.coins ∧ p.coins ≤ 9) := by simp [pclOk]
theorem pclOk_plc {m : PMap} {p : Pcl} (h : pclOk m p = true) : plcOk m = true := by simp [pclOk] at h; exact h.1

def cllFresh (c : Cll) (o : Ord) : Bool := wlkHas c.wlks o.who && decide ((wlkFind c.wlks o.who).seq < o.seq)

def isOrd (who seq : Int) (r : Rec) : Bool := decide (r.kind = 1 ∧ r.ord.who = who ∧ r.ord.seq = seq)
def cntTo (l : List Rec) (who seq : Int) (k : Nat) : Nat := (flt (isOrd who seq) l k).length
theorem cntTo_zero (l : List Rec) (who seq : Int) : cntTo l who seq 0 = 0 := by simp [cntTo, flt]
theorem cntTo_yes {l : List Rec} {who seq : Int} {k : Nat} (h : k < l.length) (hy : (nth .rcd l k).kind = 1 ∧ (nth .rcd l k).ord.who = who ∧ (nth .rcd l k).ord.seq = seq) : cntTo l who seq (k + 1) = cntTo l who seq k + 1 := by
  unfold cntTo
  rw [flt_succ .rcd _ _ _ h, if_pos (by simpa [isOrd] using hy)]
  simp
theorem cntTo_no {l : List Rec} {who seq : Int} {k : Nat} (h : k < l.length) (hy : ¬ ((nth .rcd l k).kind = 1 ∧ (nth .rcd l k).ord.who = who ∧ (nth .rcd l k).ord.seq = seq)) : cntTo l who seq (k + 1) = cntTo l who seq k := by
  unfold cntTo
  rw [flt_succ .rcd _ _ _ h, if_neg (by simpa [isOrd] using hy)]
theorem cntTo_le (l : List Rec) (who seq : Int) (k : Nat) : cntTo l who seq k ≤ k := flt_len _ _ _
def logCount (l : List Rec) (who seq : Int) : Nat := cntTo l who seq l.length
theorem logCount_at {l : List Rec} {who seq : Int} {k : Nat} (h : k = l.length) : cntTo l who seq k = logCount l who seq := by subst h; rfl

structure CB where
  c : Cll
  ok : Bool
def insNext (c : Cll) (s : Nat) : List Int := c.ins.set s (nth .int c.ins s + 1)
def cllRecv (m : PMap) (c : Cll) (s : Nat) (p : Pcl) : CB :=
  if ¬ p.n = nth .int c.ins s ∨ 900 < c.ground + p.coins then ⟨c, false⟩
  else if p.kind = 2 then ⟨⟨c.cell, c.wlks, c.ground + p.coins, c.outs, c.next, insNext c s⟩, true⟩
  else if 0 ≤ wlkPlace c.wlks p.wlk.id ∨ ¬ plcCell m p.wlk.pos = c.cell then ⟨c, false⟩
  else ⟨⟨c.cell, wlkPut c.wlks p.wlk, c.ground, c.outs, c.next, insNext c s⟩, true⟩
def cllInX (m : PMap) (c : Cll) (s : Int) (p : Pcl) : CB := if cllOk m c = true ∧ pclOk m p = true ∧ ¬ plcSide m c.cell s = -1 then cllRecv m c s.toNat p else ⟨zeroC, false⟩
theorem gwrap {m : PMap} {c : Cll} {p : Pcl} (h : cllOk m c = true) (hp : pclOk m p = true) : IntKind.i64.wrap (c.ground + p.coins) = c.ground + p.coins := by
  have h1 := cllOk_facts h
  rw [pclOk_iff] at hp
  exact wrap_id (by omega) (by omega)
theorem recv_no {m : PMap} {c : Cll} {s : Nat} {p : Pcl} (h : (cllRecv m c s p).ok = false) : (cllRecv m c s p).c = c := by
  unfold cllRecv at *
  split at * <;> (try split at *) <;> (try split at *) <;> simp_all
def relOuts (c : Cll) (s : Nat) (n : Int) : List (List Pcl) := c.outs.set s (pclFrom (nth .pcls c.outs s) n)
def cllRel (c : Cll) (s : Nat) (n : Int) : CB :=
  if nth .int c.next s < n ∨ n ≤ nth .int c.next s - (nth .pcls c.outs s).length then ⟨c, false⟩ else ⟨⟨c.cell, c.wlks, c.ground, relOuts c s n, c.next, c.ins⟩, true⟩
theorem rel_no {c : Cll} {s : Nat} {n : Int} (h : (cllRel c s n).ok = false) : (cllRel c s n).c = c := by
  unfold cllRel at *
  split at * <;> simp_all
theorem list_first {m : PMap} {l : List Pcl} {n : Int} (h : pclListOk m l n = true) (h0 : 0 < l.length) : (nth .pcl l 0).n = n - l.length := by
  simp only [pclListOk, Bool.and_eq_true] at h
  have := (allTo_iff _ _).1 h.2 0 h0
  simp [pclAt] at this
  exact this.2
structure AP where
  c : Cll
  code : Int
  ok : Bool
def cllApply (m : PMap) (c : Cll) (r : Rec) : AP :=
  if r.kind = 1 then (if cllFresh c r.ord = true then ⟨(cllDo m c r.ord).c, (cllDo m c r.ord).code, true⟩ else ⟨c, 0, false⟩)
  else if plcSide m c.cell r.side = -1 then ⟨c, 0, false⟩
  else if r.kind = 2 then ⟨(cllRecv m c r.side.toNat r.pcl).c, 0, (cllRecv m c r.side.toNat r.pcl).ok⟩
  else ⟨(cllRel c r.side.toNat r.n).c, 0, (cllRel c r.side.toNat r.n).ok⟩
def cllApplyL (m : PMap) (c : Cll) (r : Rec) : AP := if logOk m r = true then cllApply m c r else ⟨c, 0, false⟩
def cllApplyX (m : PMap) (c : Cll) (r : Rec) : AP := if cllOk m c = true ∧ logOk m r = true then cllApply m c r else ⟨zeroC, 0, false⟩

/-! ## Walkers in order -/
def srt (l : List Wlk) : Prop := ∀ i j, i < j → j < l.length → (nth .wlk l i).id < (nth .wlk l j).id
theorem srt_of {m : PMap} {l : List Wlk} (h : wlkAll m l = true) : srt l := by
  intro i j hij
  induction j with
  | zero => omega
  | succ j ih =>
    intro hj
    have h1 := (allTo_iff _ _).1 h (j + 1) hj
    simp only [wlkAt, Bool.and_eq_true, Bool.or_eq_true, decide_eq_true_eq, Nat.add_sub_cancel] at h1
    have h2 : (nth .wlk l j).id < (nth .wlk l (j + 1)).id := h1.2.resolve_left (by omega)
    rcases Nat.lt_or_ge i j with h3 | h3
    · exact Int.lt_trans (ih h3 (by omega)) h2
    · have : i = j := by omega
      subst this
      exact h2
theorem srt_set {l : List Wlk} {i : Nat} {w : Wlk} (h : srt l) (hw : w.id = (nth .wlk l i).id) : srt (l.set i w) := by
  have hid : ∀ j, (nth .wlk (l.set i w) j).id = (nth .wlk l j).id := fun j => by
    by_cases hj : i = j
    · subst hj
      by_cases hi : i < l.length
      · rw [nth_set_eq .wlk hi, hw]
      · rw [List.set_eq_of_length_le (by omega)]
    · rw [nth_set_ne .wlk hj]
  intro a b hab hb
  rw [hid, hid]
  rw [List.length_set] at hb
  exact h a b hab hb
theorem filter_split {l : List Wlk} {i : Nat} (h : srt l) (hi : i < l.length) : wlkOut l (nth .wlk l i).id = l.take i ++ l.drop (i + 1) := by
  have h1 : ∀ p : Wlk → Bool, l.filter p = (l.take i ++ (nth .wlk l i :: l.drop (i + 1))).filter p := fun p => by
    rw [nth_lt .wlk l i hi, List.getElem_cons_drop, List.take_append_drop]
  unfold wlkOut
  rw [h1, List.filter_append, List.filter_cons]
  have ha : (l.take i).filter (fun w => decide (w.id ≠ (nth .wlk l i).id)) = l.take i := by
    rw [List.filter_eq_self]
    intro x hx
    obtain ⟨j, hj, rfl⟩ := List.getElem_of_mem hx
    rw [List.length_take] at hj
    have := h j i (by omega) hi
    rw [nth_lt .wlk l j (by omega)] at this
    simp only [List.getElem_take, ne_eq, decide_eq_true_eq]
    omega
  have hb : (l.drop (i + 1)).filter (fun w => decide (w.id ≠ (nth .wlk l i).id)) = l.drop (i + 1) := by
    rw [List.filter_eq_self]
    intro x hx
    obtain ⟨j, hj, rfl⟩ := List.getElem_of_mem hx
    rw [List.length_drop] at hj
    have := h i (i + 1 + j) (by omega) (by omega)
    rw [nth_lt .wlk l (i + 1 + j) (by omega)] at this
    simp only [List.getElem_drop, ne_eq, decide_eq_true_eq]
    omega
  rw [ha, hb]
  simp
theorem put_set {l : List Wlk} {i : Nat} {w : Wlk} (h : srt l) (hi : i < l.length) (hw : w.id = (nth .wlk l i).id) : wlkPut l w = l.set i w := by
  unfold wlkPut
  rw [hw, filter_split h hi]
  have hl : (l.take i ++ l.drop (i + 1)).length = l.length - 1 := by simp; omega
  have hpos : putPos (l.take i ++ l.drop (i + 1)) (nth .wlk l i).id = i := by
    have hb : ∀ j, j < i → above (nth .wlk l i).id (nth .wlk (l.take i ++ l.drop (i + 1)) j) = false := fun j hj => by
      have h1 : nth .wlk (l.take i ++ l.drop (i + 1)) j = nth .wlk l j := by
        rw [nth_lt .wlk _ j (by rw [hl]; omega), nth_lt .wlk l j (by omega), List.getElem_append_left (by rw [List.length_take]; omega), List.getElem_take]
      rw [h1]
      have := h j i hj hi
      simp only [above, decide_eq_false_iff_not]
      omega
    by_cases he : i + 1 < l.length
    · have h1 : nth .wlk (l.take i ++ l.drop (i + 1)) i = nth .wlk l (i + 1) := by
        rw [nth_lt .wlk _ i (by rw [hl]; omega), nth_lt .wlk l (i + 1) he, List.getElem_append_right (by rw [List.length_take]; omega), List.getElem_drop]
        congr 1
        rw [List.length_take]; omega
      have h2 := h i (i + 1) (by omega) he
      have : idx (above (nth .wlk l i).id) (l.take i ++ l.drop (i + 1)) = i := by
        refine idx_at (by rw [hl]; omega) ?_ fun j hj => ?_
        · rw [← nth_lt .wlk _ i (by rw [hl]; omega), h1]
          simpa [above] using h2
        · rw [← nth_lt .wlk _ j (by rw [hl]; omega)]
          exact hb j hj
      unfold putPos
      rw [this, if_neg (by omega)]
      rfl
    · have : idx (above (nth .wlk l i).id) (l.take i ++ l.drop (i + 1)) = -1 := by
        refine idx_none fun j hj => ?_
        rw [← nth_lt .wlk _ j hj]
        rw [hl] at hj
        exact hb j (by omega)
      unfold putPos
      rw [this, if_pos (by omega), hl]
      omega
  rw [hpos]
  unfold insL
  rw [List.take_append_of_le_length (by rw [List.length_take]; omega), List.take_take, Nat.min_self, List.drop_append_of_le_length (by rw [List.length_take]; omega)]
  rw [show (l.take i).drop i = [] from List.drop_eq_nil_of_le (by rw [List.length_take]; omega), List.nil_append, List.set_eq_take_append_cons_drop, if_pos hi]
  simp

/-! ## One walker, and another -/
theorem has_lt {l : List Wlk} {id : Int} (h : wlkHas l id = true) : (wlkPlace l id).toNat < l.length ∧ 0 ≤ wlkPlace l id := by
  simp only [wlkHas, decide_eq_true_eq] at h
  have := place_lt l id
  omega
theorem has_neg {l : List Wlk} {id : Int} : wlkHas l id = false ↔ wlkPlace l id < 0 := by
  simp only [wlkHas, decide_eq_false_iff_not]
  omega
theorem find_w {l : List Wlk} {id : Int} (h : wlkHas l id = true) : wlkFind l id = nth .wlk l (wlkPlace l id).toNat := by
  unfold wlkFind
  rw [if_pos (has_lt h).2]
theorem id_w {l : List Wlk} {id : Int} (h : wlkHas l id = true) : (nth .wlk l (wlkPlace l id).toNat).id = id := place_id (has_lt h).2
theorem put_w {l : List Wlk} {who : Int} {w : Wlk} (hs : srt l) (h : wlkHas l who = true) (hw : w.id = who) : wlkPut l w = l.set (wlkPlace l who).toNat w :=
  put_set hs (has_lt h).1 (by rw [hw, id_w h])
theorem place_w1 {l : List Wlk} {who x : Int} {a : Wlk} (h : wlkHas l who = true) (ha : a.id = who) : wlkPlace (l.set (wlkPlace l who).toNat a) x = wlkPlace l x := place_set (by rw [ha, id_w h])
theorem has_w1 {l : List Wlk} {who x : Int} {a : Wlk} (h : wlkHas l who = true) (ha : a.id = who) : wlkHas (l.set (wlkPlace l who).toNat a) x = wlkHas l x := by
  unfold wlkHas
  rw [place_w1 h ha]
theorem srt_w1 {l : List Wlk} {who : Int} {a : Wlk} (hs : srt l) (h : wlkHas l who = true) (ha : a.id = who) : srt (l.set (wlkPlace l who).toNat a) := srt_set hs (by rw [ha, id_w h])
theorem find_w1 {l : List Wlk} {who : Int} {a : Wlk} (h : wlkHas l who = true) (ha : a.id = who) : wlkFind (l.set (wlkPlace l who).toNat a) who = a := by
  rw [find_w (by rw [has_w1 h ha]; exact h), place_w1 h ha, nth_set_eq .wlk (has_lt h).1]
theorem put_w1 {l : List Wlk} {who : Int} {a w : Wlk} (hs : srt l) (h : wlkHas l who = true) (ha : a.id = who) (hw : w.id = who) : wlkPut (l.set (wlkPlace l who).toNat a) w = l.set (wlkPlace l who).toNat w := by
  rw [put_w (srt_w1 hs h ha) (by rw [has_w1 h ha]; exact h) hw, place_w1 h ha, List.set_set]
theorem ne_w {l : List Wlk} {who to : Int} (h : wlkHas l who = true) (ht : wlkHas l to = true) (hne : to ≠ who) : (wlkPlace l who).toNat ≠ (wlkPlace l to).toNat := by
  have h1 := (has_lt h).2
  have h2 := (has_lt ht).2
  exact place_ne (by omega) (by omega) hne
theorem find_t {l : List Wlk} {who to : Int} {a : Wlk} (h : wlkHas l who = true) (ht : wlkHas l to = true) (hne : to ≠ who) (ha : a.id = who) : wlkFind (l.set (wlkPlace l who).toNat a) to = nth .wlk l (wlkPlace l to).toNat := by
  rw [find_w (by rw [has_w1 h ha]; exact ht), place_w1 h ha, nth_set_ne .wlk (ne_w h ht hne)]
theorem put_t {l : List Wlk} {who to : Int} {a v : Wlk} (hs : srt l) (h : wlkHas l who = true) (ht : wlkHas l to = true) (ha : a.id = who) (hv : v.id = to) : wlkPut (l.set (wlkPlace l who).toNat a) v = (l.set (wlkPlace l who).toNat a).set (wlkPlace l to).toNat v := by
  rw [put_w (srt_w1 hs h ha) (by rw [has_w1 h ha]; exact ht) hv, place_w1 h ha]
theorem place_w2 {l : List Wlk} {who to x : Int} {a b : Wlk} (h : wlkHas l who = true) (ht : wlkHas l to = true) (ha : a.id = who) (hb : b.id = to) : wlkPlace ((l.set (wlkPlace l who).toNat a).set (wlkPlace l to).toNat b) x = wlkPlace l x := by
  have h2 : wlkHas (l.set (wlkPlace l who).toNat a) to = true := by rw [has_w1 h ha]; exact ht
  have h3 := place_w1 (x := x) h2 hb
  rw [place_w1 h ha, place_w1 h ha] at h3
  exact h3
theorem has_w2 {l : List Wlk} {who to x : Int} {a b : Wlk} (h : wlkHas l who = true) (ht : wlkHas l to = true) (ha : a.id = who) (hb : b.id = to) : wlkHas ((l.set (wlkPlace l who).toNat a).set (wlkPlace l to).toNat b) x = wlkHas l x := by
  unfold wlkHas
  rw [place_w2 h ht ha hb]
theorem srt_w2 {l : List Wlk} {who to : Int} {a b : Wlk} (hs : srt l) (h : wlkHas l who = true) (ht : wlkHas l to = true) (ha : a.id = who) (hb : b.id = to) : srt ((l.set (wlkPlace l who).toNat a).set (wlkPlace l to).toNat b) := by
  have h2 : wlkHas (l.set (wlkPlace l who).toNat a) to = true := by rw [has_w1 h ha]; exact ht
  have h3 := srt_w1 (srt_w1 hs h ha) h2 hb
  rw [place_w1 h ha] at h3
  exact h3
theorem find_w2 {l : List Wlk} {who to : Int} {a b : Wlk} (h : wlkHas l who = true) (ht : wlkHas l to = true) (hne : to ≠ who) (ha : a.id = who) (hb : b.id = to) : wlkFind ((l.set (wlkPlace l who).toNat a).set (wlkPlace l to).toNat b) who = a := by
  rw [find_w (by rw [has_w2 h ht ha hb]; exact h), place_w2 h ht ha hb, nth_set_ne .wlk (ne_w h ht hne).symm, nth_set_eq .wlk (has_lt h).1]
theorem put_w2 {l : List Wlk} {who to : Int} {a b w : Wlk} (hs : srt l) (h : wlkHas l who = true) (ht : wlkHas l to = true) (hne : to ≠ who) (ha : a.id = who) (hb : b.id = to) (hw : w.id = who) :
    wlkPut ((l.set (wlkPlace l who).toNat a).set (wlkPlace l to).toNat b) w = (l.set (wlkPlace l to).toNat b).set (wlkPlace l who).toNat w := by
  rw [put_w (srt_w2 hs h ht ha hb) (by rw [has_w2 h ht ha hb]; exact h) hw, place_w2 h ht ha hb, set_swap (ne_w h ht hne)]
theorem step_wrap0 {m : PMap} {c : Cll} {o : Ord} {i : Nat} (h : cllOk m c = true) (hi : i < c.wlks.length) (hd : o.dest = 0) : IntKind.i64.wrap ((nth .wlk c.wlks i).pos - 1) = (nth .wlk c.wlks i).pos + (2 * o.dest - 1) := by
  have h1 := cllOk_wlk h hi
  rw [wrap_id (by omega) (by omega)]
  omega
theorem step_wrap1 {m : PMap} {c : Cll} {o : Ord} {i : Nat} (h : cllOk m c = true) (hi : i < c.wlks.length) (ho : ordOk o = true) (hk : o.kind = 1) (hd : ¬ o.dest = 0) : IntKind.i64.wrap ((nth .wlk c.wlks i).pos + 1) = (nth .wlk c.wlks i).pos + (2 * o.dest - 1) := by
  have h1 := cllOk_wlk h hi
  rw [ordOk_iff] at ho
  rw [wrap_id (by omega) (by omega)]
  omega
theorem has_out (l : List Wlk) (id : Int) : wlkHas (wlkOut l id) id = false := by
  rw [has_neg]
  have : idx (isId id) (wlkOut l id) = -1 := by
    refine idx_none fun j hj => ?_
    have h1 : ∀ w ∈ wlkOut l id, isId id w = false := fun w hw => by
      simp only [wlkOut, List.mem_filter, decide_eq_true_eq] at hw
      simpa [isId] using hw.2
    exact h1 _ (List.getElem_mem hj)
  unfold wlkPlace
  rw [this]
  omega
theorem srt_len {l : List Wlk} (h : srt l) (h1 : ∀ i, i < l.length → 1 ≤ (nth .wlk l i).id ∧ (nth .wlk l i).id ≤ 9) : l.length ≤ 9 := by
  have hg : ∀ i, i < l.length → (i : Int) + 1 ≤ (nth .wlk l i).id := by
    intro i
    induction i with
    | zero => intro hi; have := (h1 0 hi).1; simpa using this
    | succ i ih =>
      intro hi
      have h2 := ih (by omega)
      have h3 := h i (i + 1) (by omega) hi
      push_cast
      omega
  rcases Nat.lt_or_ge 9 l.length with hlt | hge
  · have h2 := hg (l.length - 1) (by omega)
    have h3 := (h1 (l.length - 1) (by omega)).2
    omega
  · exact hge
theorem cllOk_srt {m : PMap} {c : Cll} (h : cllOk m c = true) : srt c.wlks := srt_of (cllOk_facts h).1
theorem cllOk_len {m : PMap} {c : Cll} (h : cllOk m c = true) : c.wlks.length ≤ 9 := srt_len (cllOk_srt h) fun i hi => (cllOk_wlk h hi).1
theorem recFormed_iff {r : Rec} : recFormed r = true ↔ ((r.kind = 1 ∧ ordOk r.ord = true ∧ r.side = 0 ∧ (r.pcl.n = 0 ∧ r.pcl.kind = 0 ∧ (r.pcl.wlk.id = 0 ∧ r.pcl.wlk.pos = 0 ∧ r.pcl.wlk.coins = 0 ∧ r.pcl.wlk.seq = 0 ∧ r.pcl.wlk.last = 0) ∧ r.pcl.coins = 0) ∧ r.n = 0) ∨
    (r.kind = 2 ∧ (r.side = 0 ∨ r.side = 1) ∧ (r.ord.who = 0 ∧ r.ord.seq = 0 ∧ r.ord.kind = 0 ∧ r.ord.dest = 0 ∧ r.ord.n = 0) ∧ r.n = 0) ∨
    (r.kind = 3 ∧ (r.side = 0 ∨ r.side = 1) ∧ 1 ≤ r.n ∧ r.n ≤ 5000 ∧ (r.ord.who = 0 ∧ r.ord.seq = 0 ∧ r.ord.kind = 0 ∧ r.ord.dest = 0 ∧ r.ord.n = 0) ∧ (r.pcl.n = 0 ∧ r.pcl.kind = 0 ∧ (r.pcl.wlk.id = 0 ∧ r.pcl.wlk.pos = 0 ∧ r.pcl.wlk.coins = 0 ∧ r.pcl.wlk.seq = 0 ∧ r.pcl.wlk.last = 0) ∧ r.pcl.coins = 0))) := by
  simp [recFormed, zeroO, zeroP, zeroW]

end Go.Mo

/-
  Plain laws: a cell that is ok stays ok, behind an order, a parcel, parcels let go of.
-/
namespace Go.Mo
open Go.Sx

theorem nth_mem (t : RT) {l : List t.ty} {i : Nat} (h : i < l.length) : nth t l i ∈ l := by rw [nth_lt t l i h]; exact List.getElem_mem h
theorem mem_nth (t : RT) {l : List t.ty} {x : t.ty} (h : x ∈ l) : ∃ i, i < l.length ∧ nth t l i = x := by
  obtain ⟨i, hi, rfl⟩ := List.getElem_of_mem h
  exact ⟨i, hi, nth_lt t l i hi⟩
def ids (a b : Wlk) : Prop := a.id < b.id
theorem srt_pw {l : List Wlk} : srt l ↔ l.Pairwise ids := by
  rw [List.pairwise_iff_getElem]
  constructor
  · intro h i j hi hj hij
    have := h i j hij hj
    rw [nth_lt .wlk l i hi, nth_lt .wlk l j hj] at this
    exact this
  · intro h i j hij hj
    rw [nth_lt .wlk l i (by omega), nth_lt .wlk l j hj]
    exact h i j (by omega) hj hij
theorem wlkAll_iff {m : PMap} {l : List Wlk} : wlkAll m l = true ↔ (∀ w ∈ l, wlkOk m w = true) ∧ srt l := by
  constructor
  · intro h
    refine ⟨fun w hw => ?_, srt_of h⟩
    obtain ⟨i, hi, rfl⟩ := mem_nth .wlk hw
    exact wlkAll_at h hi
  · rintro ⟨h1, h2⟩
    unfold wlkAll
    rw [allTo_iff]
    intro i hi
    simp only [wlkAt, Bool.and_eq_true, Bool.or_eq_true, decide_eq_true_eq]
    refine ⟨h1 _ (nth_mem .wlk hi), ?_⟩
    rcases Nat.eq_zero_or_pos i with h0 | h0
    · exact .inl h0
    · exact .inr (h2 (i - 1) i (by omega) hi)
def sideB (m : PMap) (cell : Int) (l : List Pcl) (n i : Int) (s : Nat) : Prop :=
  pclListOk m l n = true ∧ 0 ≤ i ∧ i ≤ 5000 ∧ (plcSide m cell s = -1 → n = 0 ∧ i = 0) ∧ ∀ p ∈ l, p.kind = 1 → plcCell m p.wlk.pos = plcSide m cell s
theorem cllSide_iff {m : PMap} {c : Cll} {s : Nat} : cllSide m c s = true ↔ sideB m c.cell (nth .pcls c.outs s) (nth .int c.next s) (nth .int c.ins s) s := by
  simp only [cllSide, sideHead, sideB, Bool.and_eq_true, decide_eq_true_eq, allTo_iff, pclDest]
  constructor
  · rintro ⟨⟨h1, h2, h3, h4⟩, h5⟩
    refine ⟨h1, h2, h3, h4, fun p hp hk => ?_⟩
    obtain ⟨i, hi, rfl⟩ := mem_nth .pcl hp
    exact h5 i hi hk
  · rintro ⟨h1, h2, h3, h4, h5⟩
    exact ⟨⟨h1, h2, h3, h4⟩, fun i hi hk => h5 _ (nth_mem .pcl hi) hk⟩
theorem cllOk_iff {m : PMap} {c : Cll} : cllOk m c = true ↔ (∀ w ∈ c.wlks, wlkOk m w = true ∧ plcCell m w.pos = c.cell) ∧ srt c.wlks ∧ plcOk m = true ∧ 0 ≤ c.cell ∧ c.cell < m.cells ∧ 0 ≤ c.ground ∧ c.ground ≤ 900 ∧ c.outs.length = 2 ∧ c.next.length = 2 ∧ c.ins.length = 2 ∧
    ∀ s, s < 2 → sideB m c.cell (nth .pcls c.outs s) (nth .int c.next s) (nth .int c.ins s) s := by
  simp only [cllOk, cllHead, Bool.and_eq_true, decide_eq_true_eq, allTo_iff, wlkAll_iff, wlkIn, cllSide_iff]
  constructor
  · rintro ⟨⟨⟨⟨h1, h2⟩, h3, h4, h5, h6, h7, h8, h9, h10⟩, h11⟩, h12⟩
    refine ⟨fun w hw => ⟨h1 w hw, ?_⟩, h2, h3, h4, h5, h6, h7, h8, h9, h10, h12⟩
    obtain ⟨i, hi, rfl⟩ := mem_nth .wlk hw
    exact h11 i hi
  · rintro ⟨h1, h2, h3, h4, h5, h6, h7, h8, h9, h10, h12⟩
    exact ⟨⟨⟨⟨fun w hw => (h1 w hw).1, h2⟩, h3, h4, h5, h6, h7, h8, h9, h10⟩, fun i hi => (h1 _ (nth_mem .wlk hi)).2⟩, h12⟩

theorem pclListOk_iff {m : PMap} {l : List Pcl} {n : Int} : pclListOk m l n = true ↔ plcOk m = true ∧ 0 ≤ n ∧ n ≤ 5000 ∧ (l.length : Int) ≤ n ∧ ∀ i, i < l.length → pclOk m (nth .pcl l i) = true ∧ (nth .pcl l i).n = n - l.length + i := by
  simp [pclListOk, allTo_iff, pclAt, and_assoc]
theorem nth_app_lt (t : RT) {l r : List t.ty} {i : Nat} (h : i < l.length) : nth t (l ++ r) i = nth t l i := by
  rw [nth_lt t (l ++ r) i (by rw [List.length_append]; omega), nth_lt t l i h, List.getElem_append_left h]
theorem nth_app_eq (t : RT) {l : List t.ty} {x : t.ty} : nth t (l ++ [x]) l.length = x := by
  rw [nth_lt t (l ++ [x]) l.length (by simp)]
  simp
theorem nth_drop' (t : RT) {l : List t.ty} {k i : Nat} (h : k + i < l.length) : nth t (l.drop k) i = nth t l (k + i) := by
  rw [nth_lt t (l.drop k) i (by rw [List.length_drop]; omega), nth_lt t l (k + i) h, List.getElem_drop]
theorem pclListOk_snoc {m : PMap} {l : List Pcl} {n : Int} {p : Pcl} (h : pclListOk m l n = true) (hn : n < 5000) (hp : pclOk m p = true) (he : p.n = n) : pclListOk m (l ++ [p]) (n + 1) = true := by
  rw [pclListOk_iff] at h ⊢
  obtain ⟨h1, h2, h3, h4, h5⟩ := h
  have hl : (l ++ [p]).length = l.length + 1 := by simp
  refine ⟨h1, by omega, by omega, by rw [hl]; omega, fun i hi => ?_⟩
  rw [hl] at hi ⊢
  by_cases hlt : i < l.length
  · rw [nth_app_lt .pcl hlt]
    have := h5 i hlt
    refine ⟨this.1, by rw [this.2]; omega⟩
  · have : i = l.length := by omega
    subst this
    have he2 : nth .pcl (l ++ [p]) l.length = p := nth_app_eq .pcl
    rw [he2]
    exact ⟨hp, by rw [he]; omega⟩
theorem pclListOk_drop {m : PMap} {l : List Pcl} {n : Int} {k : Nat} (h : pclListOk m l n = true) (hk : k ≤ l.length) : pclListOk m (l.drop k) n = true := by
  rw [pclListOk_iff] at h ⊢
  obtain ⟨h1, h2, h3, h4, h5⟩ := h
  have hl : (l.drop k).length = l.length - k := List.length_drop
  refine ⟨h1, h2, h3, by rw [hl]; omega, fun i hi => ?_⟩
  rw [hl] at hi ⊢
  rw [nth_drop' .pcl (by omega)]
  have := h5 (k + i) (by omega)
  refine ⟨this.1, by rw [this.2]; omega⟩
theorem from_drop : ∀ (l : List Pcl) (b x : Int), (∀ i, i < l.length → (nth .pcl l i).n = b + i) → b ≤ x → pclFrom l x = l.drop (x - b).toNat
  | [], b, x, _, _ => by simp [pclFrom]
  | p :: r, b, x, h, hx => by
    have h0 : p.n = b := by simpa [nth] using h 0 (by simp)
    have hr : ∀ i, i < r.length → (nth .pcl r i).n = (b + 1) + i := fun i hi => by
      have := h (i + 1) (by simpa using hi)
      have he : nth .pcl (p :: r) (i + 1) = nth .pcl r i := by simp [nth]
      rw [he] at this
      rw [this]
      omega
    by_cases hlt : b < x
    · have ih := from_drop r (b + 1) x hr (by omega)
      have e1 : (x - b).toNat = (x - (b + 1)).toNat + 1 := by omega
      rw [e1, List.drop_succ_cons, ← ih]
      simp only [pclFrom]
      rw [List.filter_cons_of_neg]
      simp; omega
    · have e1 : (x - b).toNat = 0 := by omega
      rw [e1, List.drop_zero]
      unfold pclFrom
      rw [List.filter_eq_self]
      intro q hq
      obtain ⟨i, hi, rfl⟩ := mem_nth .pcl hq
      rw [h i hi]
      simp; omega
theorem pclFrom_drop {m : PMap} {l : List Pcl} {n x : Int} (h : pclListOk m l n = true) (hx : n - l.length ≤ x) : pclFrom l x = l.drop (x - (n - l.length)).toNat :=
  from_drop l (n - l.length) x (fun i hi => (((pclListOk_iff.1 h).2.2.2.2 i hi).2)) hx

theorem srt_filter {l : List Wlk} (h : srt l) (p : Wlk → Bool) : srt (l.filter p) := by
  rw [srt_pw] at *
  exact h.filter p
theorem put_pw {l : List Wlk} {w : Wlk} (h : srt l) (hn : ∀ x ∈ l, x.id ≠ w.id) : srt (insL l (putPos l w.id) [w]) := by
  have hle := putPos_le l w.id
  have h1 : ∀ x ∈ l.take (putPos l w.id), x.id < w.id := fun x hx => by
    have hxl := List.mem_of_mem_take hx
    obtain ⟨j, hj, rfl⟩ := List.getElem_of_mem hx
    rw [List.length_take] at hj
    have := (allTo_iff _ _).1 (nab_pos hle (Nat.lt_irrefl (putPos l w.id))) j (by omega)
    rw [List.getElem_take] at hxl ⊢
    simp only [nab, above, Bool.not_eq_true', decide_eq_false_iff_not] at this
    rw [nth_lt .wlk l j (by omega)] at this
    have := hn _ hxl
    omega
  have h2 : ∀ x ∈ l.drop (putPos l w.id), w.id < x.id := fun x hx => by
    obtain ⟨j, hj, rfl⟩ := List.getElem_of_mem hx
    rw [List.length_drop] at hj
    rcases idx_cases (above w.id) l with ⟨h3, _⟩ | ⟨i, hi, h3, h4, _⟩
    · unfold putPos at hj
      rw [h3] at hj
      simp at hj
    · have he : putPos l w.id = i := by
        unfold putPos
        rw [h3, if_neg (by omega)]
        rfl
      simp only [above, decide_eq_true_eq] at h4
      rw [List.getElem_drop]
      simp only [he]
      rcases Nat.eq_zero_or_pos j with h0 | h0
      · subst h0; exact h4
      · have := h i (i + j) (by omega) (by omega)
        rw [nth_lt .wlk l i hi, nth_lt .wlk l (i + j) (by omega)] at this
        omega
  rw [srt_pw] at h ⊢
  unfold insL
  rw [List.pairwise_append]
  refine ⟨h.sublist (List.take_sublist _ _), ?_, fun a ha b hb => ?_⟩
  · simp only [List.cons_append, List.nil_append, List.pairwise_cons]
    exact ⟨fun b hb => h2 b hb, h.sublist (List.drop_sublist _ _)⟩
  · simp only [List.cons_append, List.nil_append, List.mem_cons] at hb
    rcases hb with rfl | hb
    · exact h1 a ha
    · exact Int.lt_trans (h1 a ha) (h2 b hb)
theorem mem_insL {α : Type} {l m : List α} {n : Nat} {x : α} (h : x ∈ insL l n m) : x ∈ l ∨ x ∈ m := by
  simp only [insL, List.mem_append] at h
  rcases h with h | h | h
  · exact .inl (List.mem_of_mem_take h)
  · exact .inr h
  · exact .inl (List.mem_of_mem_drop h)
theorem out_mem {l : List Wlk} {id : Int} {x : Wlk} (h : x ∈ wlkOut l id) : x ∈ l ∧ x.id ≠ id := by
  simpa [wlkOut] using h
theorem put_srt {l : List Wlk} {w : Wlk} (h : srt l) : srt (wlkPut l w) := put_pw (srt_filter h _) fun x hx => (out_mem hx).2
theorem put_mem {l : List Wlk} {w x : Wlk} (h : x ∈ wlkPut l w) : x ∈ l ∨ x = w := by
  rcases mem_insL h with h | h
  · exact .inl (out_mem h).1
  · exact .inr (by simpa using h)
theorem set_mem {l : List Wlk} {i : Nat} {w x : Wlk} (h : x ∈ l.set i w) : x ∈ l ∨ x = w := List.mem_or_eq_of_mem_set h

theorem set_ok {m : PMap} {c : Cll} {i : Nat} {w : Wlk} {g : Int} (h : cllOk m c = true) (hw : w.id = (nth .wlk c.wlks i).id) (hok : wlkOk m w = true) (hp : plcCell m w.pos = c.cell) (hg : 0 ≤ g ∧ g ≤ 900) : cllOk m ⟨c.cell, c.wlks.set i w, g, c.outs, c.next, c.ins⟩ = true := by
  rw [cllOk_iff] at h ⊢
  obtain ⟨h1, h2, h3, h4, h5, _, _, h8⟩ := h
  refine ⟨fun x hx => ?_, srt_set h2 hw, h3, h4, h5, hg.1, hg.2, h8⟩
  rcases set_mem hx with hx | rfl
  · exact h1 x hx
  · exact ⟨hok, hp⟩
theorem lt5000 {x : Int} (h : x ≤ 5000) (h2 : ¬ x = 5000) : x < 5000 := by omega
theorem le4999 {x : Int} (h : x ≤ 5000) (h2 : ¬ x = 5000) : x ≤ 4999 := by omega
theorem le_succ {a b : Int} (h : a = b) (h2 : a ≤ 4999) : b + 1 ≤ 5000 := by omega
theorem nn_succ {b : Int} (h : 0 ≤ b) : 0 ≤ b + 1 := by omega
theorem send_side {m : PMap} {c : Cll} {s : Nat} {p : Pcl} (h : cllOk m c = true) (hs : s < 2) (hn : ¬ nth .int c.next s = 5000) (hp : pclOk m ⟨nth .int c.next s, p.kind, p.wlk, p.coins⟩ = true) (hsd : ¬ plcSide m c.cell s = -1) (hk : p.kind = 1 → plcCell m p.wlk.pos = plcSide m c.cell s) :
    (sendOuts c s p).length = 2 ∧ (sendNext c s).length = 2 ∧ ∀ s', s' < 2 → sideB m c.cell (nth .pcls (sendOuts c s p) s') (nth .int (sendNext c s) s') (nth .int c.ins s') s' := by
  have hside := cllOk_side h hs
  rw [cllOk_iff] at h
  obtain ⟨_, _, _, _, _, _, _, ho, hnx, hi, hsb⟩ := h
  refine ⟨by simp [sendOuts, ho], by simp [sendNext, hnx], fun s' hs' => ?_⟩
  have hb := hsb s' hs'
  unfold sendOuts sendNext
  by_cases he : s = s'
  · subst he
    rw [nth_set_eq .pcls (by omega), nth_set_eq .int (by omega)]
    obtain ⟨b1, b2, b3, b4, b5⟩ := hb
    refine ⟨pclListOk_snoc b1 (lt5000 hside.1.2 hn) hp rfl, b2, b3, fun hh => absurd hh hsd, fun q hq hqk => ?_⟩
    · simp only [List.mem_append, List.mem_singleton] at hq
      rcases hq with hq | rfl
      · exact b5 q hq hqk
      · exact hk hqk
  · rw [nth_set_ne .pcls he, nth_set_ne .int he]
    exact hb
theorem edge_side {m : PMap} {p d : Int} (hd : d = 0 ∨ d = 1) (h1 : ¬ plcCell m (p + (2 * d - 1)) = -1) (h0 : ¬ plcCell m p = -1) (h2 : ¬ plcCell m (p + (2 * d - 1)) = plcCell m p) : plcCell m (p + (2 * d - 1)) = plcSide m (plcCell m p) d ∧ ¬ plcSide m (plcCell m p) d = -1 := by
  obtain ⟨g1, g2, g3, g4⟩ := plcCell_ne h1
  obtain ⟨_, k2, k3, k4⟩ := plcCell_ne h0
  have hok := g1
  rw [plcOk_iff] at g1
  obtain ⟨c, w⟩ := m
  simp only at *
  have hw : w = 2 ∨ w = 3 ∨ w = 4 ∨ w = 5 ∨ w = 6 ∨ w = 7 ∨ w = 8 := by omega
  rw [g4, k4] at h2
  rw [g4, k4]
  unfold plcSide
  simp only [hok, true_and]
  clear g4 k4 h1 h0
  rcases hw with rfl | rfl | rfl | rfl | rfl | rfl | rfl <;> rcases hd with rfl | rfl <;> refine ⟨?_, ?_⟩ <;> (repeat' split) <;> omega
/-- BEHIND AN ORDER A CELL THAT IS OK IS OK. -/
theorem cllDo_ok {m : PMap} {c : Cll} {o : Ord} (h : cllOk m c = true) (ho : ordOk o = true) : cllOk m (cllDo m c o).c = true := by
  have hoi := ordOk_iff.1 ho
  unfold cllDo
  split
  · exact h
  rename_i hneg
  have hlt := place_ge hneg
  have hid := place_id (l := c.wlks) (id := o.who) (by omega)
  generalize hi : (wlkPlace c.wlks o.who).toNat = i at *
  have hwb := cllOk_wlk h hlt
  have hwok := (cllOk_iff.1 h).1 _ (nth_mem .wlk hlt)
  have hwi := wlkOk_iff.1 hwok.1
  have hf := cllOk_facts h
  simp only
  generalize hw : nth .wlk c.wlks i = w at *
  split
  · exact h
  split
  · exact h
  rename_i hs1 hs2
  -- a walker that stays
  have stay : ∀ (pos coins last g : Int), plcCell m pos = c.cell → 0 ≤ coins ∧ coins ≤ 99 → 0 ≤ last ∧ last ≤ 9 → 0 ≤ g ∧ g ≤ 900 → cllOk m ⟨c.cell, c.wlks.set i ⟨w.id, pos, coins, o.seq, last⟩, g, c.outs, c.next, c.ins⟩ = true := by
    intro pos coins last g hp hc hl hg
    refine set_ok h (by rw [hw]) ?_ hp hg
    rw [wlkOk_iff]
    simp only
    exact ⟨hwi.1, hwi.2.1, by rw [hp]; omega, hc.1, hc.2, by omega, by omega, hl.1, hl.2⟩
  have hwc : plcCell m w.pos = c.cell := hwok.2
  have hco : 0 ≤ w.coins ∧ w.coins ≤ 99 := ⟨hwi.2.2.2.1, hwi.2.2.2.2.1⟩
  have hgr : 0 ≤ c.ground ∧ c.ground ≤ 900 := ⟨hf.2.2.2.2.1, hf.2.2.2.2.2.1⟩
  have fin : ∀ code, 0 ≤ code ∧ code ≤ 9 → cllOk m (cllFin c i ⟨w.id, w.pos, w.coins, o.seq, w.last⟩ c.ground code).c = true := fun code hc => stay _ _ _ _ hwc hco hc hgr
  unfold doKind
  split
  · unfold doStep
    simp only
    split
    · exact fin 2 (by omega)
    split
    · rename_i h2
      exact stay _ _ _ _ h2 hco (by omega) hgr
    split
    · exact fin 2 (by omega)
    rename_i e1 e2 e3
    have hd : o.dest = 0 ∨ o.dest = 1 := by omega
    obtain ⟨g1, g2⟩ := edge_side (m := m) (p := w.pos) hd e1 (by rw [hwc]; omega) (by rw [hwc]; exact e2)
    rw [hwc] at g1 g2
    have hdd : ((o.dest.toNat : Nat) : Int) = o.dest := by omega
    have hside := cllOk_side h (s := o.dest.toNat) (by omega)
    obtain ⟨s1, s2, s3⟩ := send_side (p := ⟨0, 1, ⟨w.id, w.pos + (2 * o.dest - 1), w.coins, o.seq, 1⟩, 0⟩) h (s := o.dest.toNat) (by omega) e3 (by
      rw [pclOk_iff]
      refine ⟨hf.2.1, hside.1.1, le4999 hside.1.2 e3, .inl ⟨rfl, ?_, rfl⟩⟩
      · rw [wlkOk_iff]
        exact ⟨hwi.1, hwi.2.1, e1, hco.1, hco.2, by show 0 ≤ o.seq; omega, by show o.seq ≤ 900; omega, by show (0 : Int) ≤ 1; omega, by show (1 : Int) ≤ 9; omega⟩) (by rw [hdd]; exact g2) (fun _ => by rw [hdd]; exact g1)
    rw [cllOk_iff] at h ⊢
    obtain ⟨h1, h2, h3, h4, h5, h6, h7, h8, h9, h10, h11⟩ := h
    refine ⟨fun x hx => ?_, srt_filter (srt_set h2 (by rw [hw])) _, h3, h4, h5, h6, h7, s1, s2, h10, s3⟩
    obtain ⟨hx1, hx2⟩ := out_mem hx
    rcases set_mem hx1 with hx1 | rfl
    · exact h1 x hx1
    · exact absurd hid hx2
  split
  · unfold doGive
    simp only
    split
    · exact fin 4 (by omega)
    split
    · exact fin 3 (by omega)
    split
    · exact fin 5 (by omega)
    rename_i e1 e2 e3
    have hlj := place_ge e1
    have hne : o.dest ≠ o.who := by omega
    have hij := place_ne hneg e1 hne
    rw [hi] at hij
    generalize hj : (wlkPlace c.wlks o.dest).toNat = j at *
    have hvok := (cllOk_iff.1 h).1 _ (nth_mem .wlk hlj)
    have hvi := wlkOk_iff.1 hvok.1
    have h' := set_ok (i := j) (w := ⟨(nth .wlk c.wlks j).id, (nth .wlk c.wlks j).pos, (nth .wlk c.wlks j).coins + o.n, (nth .wlk c.wlks j).seq, (nth .wlk c.wlks j).last⟩) h rfl (by
      rw [wlkOk_iff]
      simp only
      exact ⟨hvi.1, hvi.2.1, hvi.2.2.1, by omega, by omega, hvi.2.2.2.2.2⟩) hvok.2 hgr
    refine set_ok (i := i) (w := ⟨w.id, w.pos, w.coins - o.n, o.seq, 1⟩) h' (by simp only; rw [nth_set_ne .wlk (Ne.symm hij), hw]) (by
      rw [wlkOk_iff]
      simp only
      exact ⟨hwi.1, hwi.2.1, hwi.2.2.1, by omega, by omega, by omega, by omega, by omega, by omega⟩) hwc hgr
  split
  · unfold doDrop
    simp only
    split
    · exact fin 3 (by omega)
    split
    · exact fin 5 (by omega)
    exact stay w.pos (w.coins - o.n) 1 (c.ground + o.n) hwc (by omega) (by omega) (by omega)
  split
  · unfold doPick
    simp only
    split
    · exact fin 6 (by omega)
    split
    · exact fin 5 (by omega)
    exact stay w.pos (w.coins + o.n) 1 (c.ground - o.n) hwc (by omega) (by omega) (by omega)
  split
  · unfold doThrow
    simp only
    split
    · exact fin 7 (by omega)
    split
    · exact fin 3 (by omega)
    split
    · exact fin 5 (by omega)
    rename_i e1 e2 e3
    have he : plcEdge m w.pos o.dest = true := by simpa using e1
    simp only [plcEdge, decide_eq_true_eq] at he
    have hdd : ((o.dest.toNat : Nat) : Int) = o.dest := by omega
    have hside := cllOk_side h (s := o.dest.toNat) (by omega)
    obtain ⟨s1, s2, s3⟩ := send_side (p := ⟨0, 2, ⟨0, 0, 0, 0, 0⟩, o.n⟩) h (s := o.dest.toNat) (by omega) e3 (by
      rw [pclOk_iff]
      exact ⟨hf.2.1, hside.1.1, le4999 hside.1.2 e3, .inr ⟨rfl, (show zeroW ⟨0, 0, 0, 0, 0⟩ = true by decide), (by show 1 ≤ o.n; omega), (by show o.n ≤ 9; omega)⟩⟩) (by rw [hdd, ← hwc]; exact he.1) (fun hk => by cases hk)
    have h' := stay w.pos (w.coins - o.n) 1 c.ground hwc (by omega) (by omega) hgr
    rw [cllOk_iff] at h' ⊢
    obtain ⟨h1, h2, h3, h4, h5, h6, h7, h8, h9, h10, h11⟩ := h'
    exact ⟨h1, h2, h3, h4, h5, h6, h7, s1, s2, h10, s3⟩
  · exact fin 1 (by omega)
/-- .. behind a parcel that comes. -/
theorem cllRecv_ok {m : PMap} {c : Cll} {s : Nat} {p : Pcl} (h : cllOk m c = true) (hp : pclOk m p = true) (hs : ¬ plcSide m c.cell s = -1) : cllOk m (cllRecv m c s p).c = true := by
  have hs2 : s < 2 := by
    have := (plcSide_ne hs).2.2.2
    omega
  have hpc : 0 ≤ p.n ∧ p.n ≤ 4999 ∧ (p.kind = 1 ∧ wlkOk m p.wlk = true ∧ p.coins = 0 ∨ p.kind = 2 ∧ 1 ≤ p.coins ∧ p.coins ≤ 9) := by
    simp only [pclOk, decide_eq_true_eq] at hp
    refine ⟨hp.2.1, hp.2.2.1, hp.2.2.2.imp id fun h => ⟨h.1, h.2.2.1, h.2.2.2⟩⟩
  have hins : ¬ (¬ p.n = nth .int c.ins s) → (insNext c s).length = 2 ∧ ∀ s', s' < 2 → sideB m c.cell (nth .pcls c.outs s') (nth .int c.next s') (nth .int (insNext c s) s') s' := by
    intro hn
    obtain ⟨_, _, _, _, _, _, _, ho, hnx, hi, hsb⟩ := cllOk_iff.1 h
    refine ⟨by simp [insNext, hi], fun s' hs' => ?_⟩
    obtain ⟨b1, b2, b3, b4, b5⟩ := hsb s' hs'
    unfold insNext
    by_cases he : s = s'
    · subst he
      rw [nth_set_eq .int (by omega)]
      exact ⟨b1, nn_succ b2, le_succ (by simpa using hn) hpc.2.1, fun hh => absurd hh hs, b5⟩
    · rw [nth_set_ne .int he]
      exact ⟨b1, b2, b3, b4, b5⟩
  unfold cllRecv
  split
  · exact h
  rename_i e1
  obtain ⟨i1, i2⟩ := hins (fun hh => e1 (.inl hh))
  split
  · rw [cllOk_iff] at h ⊢
    obtain ⟨h1, h2, h3, h4, h5, h6, h7, h8, h9, h10, h11⟩ := h
    exact ⟨h1, h2, h3, h4, h5, by show 0 ≤ c.ground + p.coins; omega, by show c.ground + p.coins ≤ 900; omega, h8, h9, i1, i2⟩
  split
  · exact h
  · rename_i e2 e3
    have hw : wlkOk m p.wlk = true := by
      rcases hpc.2.2 with ⟨_, h2, _⟩ | ⟨h2, _⟩
      · exact h2
      · exact absurd h2 e2
    have hpos : plcCell m p.wlk.pos = c.cell := by
      rcases Decidable.em (plcCell m p.wlk.pos = c.cell) with h2 | h2
      · exact h2
      · exact absurd (.inr h2) e3
    rw [cllOk_iff] at h ⊢
    obtain ⟨h1, h2, h3, h4, h5, h6, h7, h8, h9, h10, h11⟩ := h
    refine ⟨fun x hx => ?_, put_srt h2, h3, h4, h5, h6, h7, h8, h9, i1, i2⟩
    rcases put_mem hx with hx | rfl
    · exact h1 x hx
    · exact ⟨hw, hpos⟩
theorem cllRel_ok {m : PMap} {c : Cll} {s : Nat} {n : Int} (h : cllOk m c = true) (hs : s < 2) : cllOk m (cllRel c s n).c = true := by
  unfold cllRel
  split
  · exact h
  · rename_i e1
    rw [cllOk_iff] at h ⊢
    obtain ⟨h1, h2, h3, h4, h5, h6, h7, h8, h9, h10, h11⟩ := h
    refine ⟨h1, h2, h3, h4, h5, h6, h7, by simp [relOuts, h8], h9, h10, fun s' hs' => ?_⟩
    obtain ⟨b1, b2, b3, b4, b5⟩ := h11 s' hs'
    simp only [relOuts]
    by_cases he : s = s'
    · subst he
      rw [nth_set_eq .pcls (by omega)]
      have hle : ¬ (nth .int c.next s < n) ∧ ¬ (n ≤ nth .int c.next s - (nth .pcls c.outs s).length) := ⟨fun hh => e1 (.inl hh), fun hh => e1 (.inr hh)⟩
      have hd := pclFrom_drop (x := n) b1 (by have := hle.2; omega)
      refine ⟨?_, b2, b3, b4, fun p hp => b5 p ((List.mem_filter.1 hp).1)⟩
      rw [hd]
      have e2 : ¬ @LT.lt Int _ (nth .int c.next s) n := hle.1
      refine pclListOk_drop b1 ?_
      have e3 := (pclListOk_iff.1 b1).2.2.2.1
      have e4 : @LE.le Int _ ((nth .pcls c.outs s).length : Int) (nth .int c.next s) := e3
      generalize ((nth .pcls c.outs s).length) = L at *
      generalize (nth .int c.next s : Int) = N at *
      omega
    · rw [nth_set_ne .pcls he]
      exact ⟨b1, b2, b3, b4, b5⟩
theorem cllApply_ok {m : PMap} {c : Cll} {r : Rec} (h : cllOk m c = true) (hr : logOk m r = true) : cllOk m (cllApply m c r).c = true := by
  simp only [logOk, decide_eq_true_eq] at hr
  obtain ⟨_, h2, h3⟩ := hr
  rw [recFormed_iff] at h2
  unfold cllApply
  split
  · split
    · exact cllDo_ok h (by
        rcases h2 with h2 | h2 | h2
        · exact h2.2.1
        · omega
        · omega)
    · exact h
  split
  · exact h
  rename_i hk hsd
  have hss : (r.side.toNat : Int) = r.side := by omega
  split
  · rename_i hk2
    exact cllRecv_ok h (h3 hk2) (by rw [hss]; exact hsd)
  · exact cllRel_ok h (by omega)

end Go.Mo

/-
  Plain models: records one behind the other.
-/
namespace Go.Sx
/-- .. of some keys. -/
def St.fgs (σ : St) : List Nat → St
  | [] => σ
  | k :: ks => (σ.fg k).fgs ks
end Go.Sx
namespace Go.Mo
open Go.Sx

def foldTo (m : PMap) (c : Cll) (l : List Rec) : Nat → Cll
  | 0 => c
  | k + 1 => (cllApply m (foldTo m c l k) (nth .rcd l k)).c
theorem foldTo_zero (m : PMap) (c : Cll) (l : List Rec) : foldTo m c l 0 = c := rfl
theorem foldTo_succ (m : PMap) (c : Cll) (l : List Rec) (k : Nat) : foldTo m c l (k + 1) = (cllApply m (foldTo m c l k) (nth .rcd l k)).c := rfl
def fitAt (m : PMap) (c : Cll) (l : List Rec) (k : Nat) : Bool := logOk m (nth .rcd l k) && (cllApply m (foldTo m c l k) (nth .rcd l k)).ok
def foldN (m : PMap) (c : Cll) (l : List Rec) : Nat := ((List.range l.length).find? fun k => !fitAt m c l k).getD l.length
def foldC (m : PMap) (c : Cll) (l : List Rec) : Cll := foldTo m c l (foldN m c l)
theorem fold_ok {m : PMap} {c : Cll} {l : List Rec} (h : cllOk m c = true) : ∀ {k : Nat}, allTo k (fitAt m c l) = true → cllOk m (foldTo m c l k) = true
  | 0, _ => h
  | k + 1, hk => by
    rw [allTo_succ, Bool.and_eq_true] at hk
    simp only [fitAt, Bool.and_eq_true] at hk
    exact cllApply_ok (fold_ok h hk.1) hk.2.1
theorem foldN_at {m : PMap} {c : Cll} {l : List Rec} {k : Nat} (hk : k < l.length) (h : allTo k (fitAt m c l) = true) (hf : fitAt m c l k = false) : foldN m c l = k := by
  unfold foldN
  have h1 : (List.range l.length).find? (fun k => !fitAt m c l k) = some k := List.find?_range_eq_some.2 ⟨by simp [hf], by simpa using hk, fun j hj => by simp [(allTo_iff _ _).1 h j hj]⟩
  rw [h1]
  rfl
theorem foldN_all {m : PMap} {c : Cll} {l : List Rec} {k : Nat} (hk : k = l.length) (h : allTo k (fitAt m c l) = true) : foldN m c l = k := by
  subst hk
  unfold foldN
  have h1 : (List.range l.length).find? (fun k => !fitAt m c l k) = none := List.find?_eq_none.2 fun j hj => by simpa using (allTo_iff _ _).1 h j (by simpa using hj)
  rw [h1]
  rfl
theorem foldN_le (m : PMap) (c : Cll) (l : List Rec) : foldN m c l ≤ l.length := by
  unfold foldN
  cases h : (List.range l.length).find? fun k => !fitAt m c l k with
  | none => simp
  | some k => have := List.mem_of_find?_eq_some h; simp at this ⊢; omega
theorem foldN_fits (m : PMap) (c : Cll) (l : List Rec) : allTo (foldN m c l) (fitAt m c l) = true := by
  rw [allTo_iff]
  intro j hj
  unfold foldN at hj
  cases h : (List.range l.length).find? fun k => !fitAt m c l k with
  | none =>
    rw [h] at hj
    simp at hj
    have := List.find?_eq_none.1 h j (by simpa using hj)
    simpa using this
  | some k =>
    rw [h] at hj
    simp at hj
    have h2 := (List.find?_range_eq_some.1 h).2.2 j hj
    simpa using h2
theorem foldC_ok {m : PMap} {c : Cll} {l : List Rec} (h : cllOk m c = true) : cllOk m (foldC m c l) = true := fold_ok h (foldN_fits m c l)
theorem fresh_has {c : Cll} {o : Ord} (h : cllFresh c o = true) : wlkHas c.wlks o.who = true := by
  simp only [cllFresh, Bool.and_eq_true] at h
  exact h.1
theorem fresh_place {c : Cll} {o : Ord} (h : cllFresh c o = true) : ¬ wlkPlace c.wlks o.who < 0 ∧ (nth .wlk c.wlks (wlkPlace c.wlks o.who).toNat).seq < o.seq := by
  have h1 := fresh_has h
  have h2 := has_lt h1
  simp only [cllFresh, Bool.and_eq_true, decide_eq_true_eq] at h
  rw [find_w h1] at h
  exact ⟨by omega, h.2⟩
structure CN where
  c : Cll
  n : Int
def logFold (m : PMap) (c : Cll) (l : List Rec) : CN := if cllOk m c = true ∧ l.length ≤ 250 then ⟨foldC m c l, foldN m c l⟩ else ⟨zeroC, 0⟩
theorem logOk_do {m : PMap} {r : Rec} (h : logOk m r = true) (hk : r.kind = 1) : ordOk r.ord = true := by
  simp only [logOk, decide_eq_true_eq] at h
  have := recFormed_iff.1 h.2.1
  rcases this with h | h | h
  · exact h.2.1
  · omega
  · omega
theorem logOk_in {m : PMap} {r : Rec} (h : logOk m r = true) (hk : r.kind = 2) : pclOk m r.pcl = true := by
  simp only [logOk, decide_eq_true_eq] at h
  exact h.2.2 hk

/-- Short lists. -/
def small (b : List Wlk) (d : List (List Pcl)) : Prop := b.length ≤ 1000 ∧ ∀ i, (nth .pcls d i).length ≤ 5000
theorem small_ok {m : PMap} {c : Cll} (h : cllOk m c = true) : small c.wlks c.outs := by
  refine ⟨Nat.le_trans (cllOk_len h) (by decide), fun i => ?_⟩
  have ho := (cllOk_facts h).2.2.2.2.2.2.1
  by_cases hi : i < 2
  · have := cllOk_side h hi
    have h1 : ((nth .pcls c.outs i).length : Int) ≤ 5000 := Int.le_trans this.2.2.1 this.1.2
    omega
  · have : nth .pcls c.outs i = [] := by simp [nth, List.getD, RT.dflt, List.getElem?_eq_none (show c.outs.length ≤ i by omega)]
    rw [this]
    exact Nat.zero_le _
theorem small_nil {b : List Wlk} (h : b.length ≤ 1000) : small b [] := ⟨h, fun i => by simp [nth, RT.dflt]⟩
theorem small_two {b : List Wlk} (h : b.length ≤ 1000) : small b [[], []] := ⟨h, fun i => by
  match i with
  | 0 => simp [nth]
  | 1 => simp [nth]
  | (n + 2) => simp [nth, RT.dflt]⟩
theorem small_apply {m : PMap} {c : Cll} {r : Rec} (h : (cllApplyX m c r).ok = true) : small (cllApplyX m c r).c.wlks (cllApplyX m c r).c.outs := by
  unfold cllApplyX at *
  split at h
  · rename_i hh
    rw [if_pos hh]
    exact small_ok (cllApply_ok hh.1 hh.2)
  · cases h

end Go.Mo

/-
  Plain laws: drawn numbers.
-/
namespace Go.Mo
open Go.Sx

theorem tm {a n : Int} (ha : 0 ≤ a) (hn : 1 ≤ n) : 0 ≤ a.tmod n ∧ a.tmod n < n := by
  rw [Int.tmod_eq_emod_of_nonneg ha]
  exact ⟨Int.emod_nonneg _ (by omega), Int.emod_lt_of_pos _ (by omega)⟩
theorem td {a n : Int} (ha : 0 ≤ a) (hn : 1 ≤ n) : 0 ≤ a.tdiv n ∧ a.tdiv n ≤ a := by
  rw [Int.tdiv_eq_ediv_of_nonneg ha]
  exact ⟨Int.ediv_nonneg ha (by omega), Int.ediv_le_self n ha⟩
theorem xorw {a b : Int} (ha : 0 ≤ a) (ha2 : a < 9223372036854775808) (hb : 0 ≤ b) (hb2 : b < 9223372036854775808) : 0 ≤ IntKind.i64.wrap (((BitVec.ofInt IntKind.i64.bits a ^^^ BitVec.ofInt IntKind.i64.bits b).toNat : Nat) : Int) := by
  have h1 : ∀ x : Int, 0 ≤ x → x < 9223372036854775808 → (BitVec.ofInt IntKind.i64.bits x).toNat < 2 ^ 63 := fun x h0 h2 => by
    rw [BitVec.toNat_ofInt]
    have : IntKind.i64.bits = 64 := rfl
    rw [this]
    omega
  have h2 : (BitVec.ofInt IntKind.i64.bits a ^^^ BitVec.ofInt IntKind.i64.bits b).toNat < 2 ^ 63 := by
    rw [BitVec.toNat_xor]
    exact Nat.xor_lt_two_pow (h1 a ha ha2) (h1 b hb hb2)
  rw [wrap_id (by omega) (by omega)]
  omega
theorem okByte {l : List Int} (h : OkA (.list .byte fun _ => l)) : ∀ i, i < l.length → @LE.le Int _ 0 (nth .byte l i) ∧ @LE.le Int _ (nth .byte l i) 255 := by
  cases h with
  | list _ _ _ g =>
    intro i hi
    have := g i 0 _ hi rfl
    cases this with
    | int _ _ h1 h2 => exact ⟨h1, h2⟩
theorem pick_far {L p b1 b2 n : Int} (hL : 1 ≤ L) (hp0 : 0 ≤ p) (hp : p ≤ 1000000001000) (h1 : 0 ≤ b1 ∧ b1 ≤ 255) (h2 : 0 ≤ b2 ∧ b2 ≤ 255) (hn : 1 ≤ n) (x : Int)
    (hx : x = IntKind.i64.wrap (IntKind.i64.wrap (IntKind.i64.wrap (IntKind.i64.wrap (b1 * 131) + IntKind.i64.wrap (b2 * 1117)) + IntKind.i64.wrap (p * 29)) + IntKind.i64.wrap (IntKind.i64.wrap (p.tdiv L) * 53))) :
    0 ≤ (IntKind.i64.wrap (((BitVec.ofInt IntKind.i64.bits x ^^^ BitVec.ofInt IntKind.i64.bits (IntKind.i64.wrap (x.tdiv 64))).toNat : Nat) : Int)).tmod n ∧ (IntKind.i64.wrap (((BitVec.ofInt IntKind.i64.bits x ^^^ BitVec.ofInt IntKind.i64.bits (IntKind.i64.wrap (x.tdiv 64))).toNat : Nat) : Int)).tmod n < n := by
  have hd := td hp0 hL
  generalize hdd : p.tdiv L = d at *
  rw [wrap_id (n := b1 * 131) (by omega) (by omega), wrap_id (n := b2 * 1117) (by omega) (by omega), wrap_id (n := b1 * 131 + b2 * 1117) (by omega) (by omega), wrap_id (n := p * 29) (by omega) (by omega), wrap_id (n := d) (by omega) (by omega), wrap_id (n := d * 53) (by omega) (by omega),
    wrap_id (n := b1 * 131 + b2 * 1117 + p * 29) (by omega) (by omega), wrap_id (n := b1 * 131 + b2 * 1117 + p * 29 + d * 53) (by omega) (by omega)] at hx
  have hx0 : 0 ≤ x := by omega
  have hx1 : x < 9223372036854775808 := by omega
  have hd2 := td hx0 (show (1 : Int) ≤ 64 by omega)
  rw [wrap_id (n := x.tdiv 64) (by omega) (by omega)]
  exact tm (xorw hx0 hx1 hd2.1 (by omega)) hn

end Go.Mo

/-
  Plain laws: codes; lists compared.
-/
namespace Go.Mo
open Go.Sx

theorem cllDo_code {m : PMap} {c : Cll} {o : Ord} (h : cllOk m c = true) : 0 ≤ (cllDo m c o).code ∧ (cllDo m c o).code ≤ 9 := by
  unfold cllDo
  split
  · (constructor <;> simp)
  rename_i hneg
  have hw := cllOk_wlk h (place_ge hneg)
  simp only
  split
  · (constructor <;> simp)
  split
  · exact ⟨hw.2.2.2.2.1.1, hw.2.2.2.2.1.2⟩
  unfold doKind doStep doGive doDrop doPick doThrow cllFin
  simp only
  repeat' split
  all_goals (constructor <;> simp)

theorem doX_code {m : PMap} {c : Cll} {o : Ord} : 0 ≤ (cllDoX m c o).code ∧ (cllDoX m c o).code ≤ 9 := by
  unfold cllDoX
  split
  · rename_i h
    exact cllDo_code h.1
  · (constructor <;> simp)
theorem inX_ok {m : PMap} {c : Cll} {s : Int} {p : Pcl} (h : (cllInX m c s p).ok = true) : cllOk m (cllInX m c s p).c = true := by
  unfold cllInX at *
  split at h
  · rename_i hh
    rw [if_pos hh]
    have := plcSide_ne hh.2.2
    have hs : ((s.toNat : Nat) : Int) = s := by omega
    exact cllRecv_ok hh.1 hh.2.1 (by rw [hs]; exact hh.2.2)
  · cases h
theorem doX_ok {m : PMap} {c : Cll} {o : Ord} (h : cllOk m c = true) (ho : ordOk o = true) : cllOk m (cllDoX m c o).c = true := by
  unfold cllDoX
  rw [if_pos ⟨h, ho⟩]
  exact cllDo_ok h ho

end Go.Mo

/-
  Plain laws: coins counted.
-/
namespace Go.Mo
open Go.Sx

def sumL {α : Type} (f : α → Int) (l : List α) : Int := (l.map f).sum
def sumK {α : Type} (f : α → Int) (l : List α) (k : Nat) : Int := sumL f (l.take k)
theorem sumL_app {α : Type} (f : α → Int) (l r : List α) : sumL f (l ++ r) = sumL f l + sumL f r := by simp [sumL]
theorem sumL_one {α : Type} (f : α → Int) (x : α) : sumL f [x] = f x := by simp [sumL]
theorem sumL_nil {α : Type} (f : α → Int) : sumL f [] = 0 := rfl
theorem sumK_zero {α : Type} (f : α → Int) (l : List α) : sumK f l 0 = 0 := by simp [sumK, sumL]
theorem sumK_succ (t : RT) (f : t.ty → Int) {l : List t.ty} {k : Nat} (h : k < l.length) : sumK f l (k + 1) = sumK f l k + f (nth t l k) := by
  unfold sumK
  rw [take_snoc t l k h, sumL_app, sumL_one]
theorem sumK_all {α : Type} (f : α → Int) {l : List α} {k : Nat} (h : k = l.length) : sumK f l k = sumL f l := by subst h; simp [sumK]
theorem sumL_le {α : Type} {f : α → Int} {B : Int} : ∀ {l : List α}, (∀ x ∈ l, 0 ≤ f x ∧ f x ≤ B) → 0 ≤ sumL f l ∧ sumL f l ≤ l.length * B
  | [], _ => by simp [sumL]
  | x :: r, h => by
    have h1 := sumL_le (l := r) fun y hy => h y (List.mem_cons_of_mem _ hy)
    have h2 := h x (List.mem_cons_self ..)
    have h3 : sumL f (x :: r) = f x + sumL f r := by simp [sumL]
    rw [h3, List.length_cons]
    have h4 : ((r.length + 1 : Nat) : Int) * B = r.length * B + B := by
      rw [Int.natCast_add, Int.add_mul]
      simp
    rw [h4]
    omega
theorem sumK_le {α : Type} {f : α → Int} {B : Int} {l : List α} (hB : 0 ≤ B) (h : ∀ x ∈ l, 0 ≤ f x ∧ f x ≤ B) (k : Nat) : 0 ≤ sumK f l k ∧ sumK f l k ≤ l.length * B := by
  have h1 := sumL_le (l := l.take k) fun x hx => h x (List.mem_of_mem_take hx)
  refine ⟨h1.1, Int.le_trans h1.2 (Int.mul_le_mul_of_nonneg_right ?_ hB)⟩
  have : (l.take k).length ≤ l.length := by rw [List.length_take]; omega
  omega
theorem sumL_split (t : RT) (f : t.ty → Int) {l : List t.ty} {i : Nat} (h : i < l.length) : sumL f l = sumL f (l.take i) + f (nth t l i) + sumL f (l.drop (i + 1)) := by
  have h1 : l = l.take i ++ ([nth t l i] ++ l.drop (i + 1)) := by
    rw [nth_lt t l i h, List.singleton_append, List.getElem_cons_drop, List.take_append_drop]
  conv => lhs; rw [h1]
  rw [sumL_app, sumL_app, sumL_one]
  omega
theorem sumL_set (t : RT) (f : t.ty → Int) {l : List t.ty} {i : Nat} {x : t.ty} (h : i < l.length) : sumL f (l.set i x) = sumL f l - f (nth t l i) + f x := by
  rw [sumL_split t f h, List.set_eq_take_append_cons_drop, if_pos h, ← List.singleton_append, sumL_app, sumL_app, sumL_one]
  omega
theorem sumL_out (f : Wlk → Int) {l : List Wlk} {i : Nat} (hs : srt l) (h : i < l.length) : sumL f (wlkOut l (nth .wlk l i).id) = sumL f l - f (nth .wlk l i) := by
  rw [filter_split hs h, sumL_app, sumL_split .wlk f h]
  omega
theorem sumL_ins {α : Type} (f : α → Int) {l : List α} {n : Nat} {x : α} : sumL f (insL l n [x]) = sumL f l + f x := by
  unfold insL
  rw [sumL_app, sumL_app, sumL_one]
  have : sumL f (l.take n) + sumL f (l.drop n) = sumL f l := by rw [← sumL_app, List.take_append_drop]
  omega
theorem out_none {l : List Wlk} {id : Int} (h : wlkPlace l id < 0) : wlkOut l id = l := by
  unfold wlkOut
  rw [List.filter_eq_self]
  intro x hx
  rcases idx_cases (isId id) l with ⟨_, h2⟩ | ⟨k, hk, h1, _⟩
  · have := h2 x hx
    simpa [isId] using this
  · unfold wlkPlace at h
    rw [h1] at h
    omega
def wC (w : Wlk) : Int := w.coins
def pC (p : Pcl) : Int := p.coins + p.wlk.coins
def oC (l : List Pcl) : Int := sumL pC l
def cllCoins (m : PMap) (c : Cll) : Int := if cllOk m c = true then c.ground + sumL wC c.wlks + sumL oC c.outs else 0
theorem wC_le {m : PMap} {c : Cll} (h : cllOk m c = true) : ∀ x ∈ c.wlks, 0 ≤ wC x ∧ wC x ≤ 99 := fun x hx => by
  have := wlkOk_iff.1 ((cllOk_iff.1 h).1 x hx).1
  exact ⟨this.2.2.2.1, this.2.2.2.2.1⟩
theorem pC_le {m : PMap} {l : List Pcl} {n : Int} (h : pclListOk m l n = true) : ∀ x ∈ l, 0 ≤ pC x ∧ pC x ≤ 200 := fun x hx => by
  obtain ⟨i, hi, rfl⟩ := mem_nth .pcl hx
  have h1 := pclOk_iff.1 (((pclListOk_iff.1 h).2.2.2.2 i hi).1)
  unfold pC
  rcases h1.2.2.2 with ⟨_, hw, hc⟩ | ⟨_, hz, hc⟩
  · have := wlkOk_iff.1 hw
    omega
  · simp [zeroW] at hz
    omega
theorem oC_le {m : PMap} {c : Cll} (h : cllOk m c = true) : ∀ l ∈ c.outs, 0 ≤ oC l ∧ oC l ≤ 1000000 := fun l hl => by
  obtain ⟨s, hs, rfl⟩ := mem_nth .pcls hl
  have hlen := (cllOk_facts h).2.2.2.2.2.2.1
  have hsd := cllOk_side h (s := s) (by omega)
  have h1 := sumL_le (pC_le hsd.2.2.2)
  have h2 : ((nth .pcls c.outs s).length : Int) ≤ 5000 := Int.le_trans hsd.2.2.1 hsd.1.2
  unfold oC
  have h3 : ((nth .pcls c.outs s).length : Int) * 200 ≤ 5000 * 200 := Int.mul_le_mul_of_nonneg_right h2 (by decide)
  generalize (sumL pC (nth .pcls c.outs s)) = X at *
  exact ⟨h1.1, Int.le_trans h1.2 h3⟩
/-- NO ORDER MAKES A COIN, AND NONE LOSES ONE. -/
theorem cllDo_coins {m : PMap} {c : Cll} {o : Ord} (h : cllOk m c = true) (ho : ordOk o = true) : (cllDo m c o).c.ground + sumL wC (cllDo m c o).c.wlks + sumL oC (cllDo m c o).c.outs = c.ground + sumL wC c.wlks + sumL oC c.outs := by
  have hoi := ordOk_iff.1 ho
  have hsr := cllOk_srt h
  have hf := cllOk_facts h
  unfold cllDo
  split
  · rfl
  rename_i hneg
  have hlt := place_ge hneg
  have hid := place_id (l := c.wlks) (id := o.who) (by omega)
  generalize hi : (wlkPlace c.wlks o.who).toNat = i at *
  simp only
  split
  · rfl
  split
  · rfl
  have hset : ∀ w : Wlk, sumL wC (c.wlks.set i w) = sumL wC c.wlks - (nth .wlk c.wlks i).coins + w.coins := fun w => sumL_set .wlk wC hlt
  have hsend : ∀ (s : Nat) (p : Pcl), s < 2 → sumL oC (sendOuts c s p) = sumL oC c.outs + (p.coins + p.wlk.coins) := fun s p hs => by
    unfold sendOuts
    have h1 := sumL_set .pcls oC (l := c.outs) (i := s) (x := nth .pcls c.outs s ++ [⟨nth .int c.next s, p.kind, p.wlk, p.coins⟩]) (by omega)
    have h2 : oC (nth .pcls c.outs s ++ [⟨nth .int c.next s, p.kind, p.wlk, p.coins⟩]) = oC (nth .pcls c.outs s) + (p.coins + p.wlk.coins) := by
      unfold oC
      rw [sumL_app, sumL_one]
      rfl
    rw [h1, h2]
    omega
  unfold doKind
  split
  · unfold doStep
    split
    · simp only [cllFin, hset]; omega
    split
    · simp only [cllFin, hset]; omega
    split
    · simp only [cllFin, hset]; omega
    · simp only
      have hst := srt_set (l := c.wlks) (i := i) (w := ⟨(nth .wlk c.wlks i).id, (nth .wlk c.wlks i).pos, (nth .wlk c.wlks i).coins, o.seq, (nth .wlk c.wlks i).last⟩) hsr rfl
      have hlt2 : i < (c.wlks.set i ⟨(nth .wlk c.wlks i).id, (nth .wlk c.wlks i).pos, (nth .wlk c.wlks i).coins, o.seq, (nth .wlk c.wlks i).last⟩).length := by rw [List.length_set]; exact hlt
      have h1 := sumL_out wC hst hlt2
      rw [nth_set_eq .wlk hlt] at h1
      simp only [hid] at h1
      rw [hsend _ _ (by omega)]
      simp only at h1 ⊢
      rw [hid, h1, ← hid, hset]
      simp only [wC]
      omega
  split
  · unfold doGive
    split
    · simp only [cllFin, hset]; omega
    split
    · simp only [cllFin, hset]; omega
    split
    · simp only [cllFin, hset]; omega
    rename_i e1 e2 e3
    have hlj := place_ge e1
    have hij := place_ne hneg e1 (show o.dest ≠ o.who by omega)
    rw [hi] at hij
    generalize hj : (wlkPlace c.wlks o.dest).toNat = j at *
    simp only
    have h1 := sumL_set .wlk wC (l := c.wlks.set j ⟨(nth .wlk c.wlks j).id, (nth .wlk c.wlks j).pos, (nth .wlk c.wlks j).coins + o.n, (nth .wlk c.wlks j).seq, (nth .wlk c.wlks j).last⟩) (i := i) (x := ⟨(nth .wlk c.wlks i).id, (nth .wlk c.wlks i).pos, (nth .wlk c.wlks i).coins - o.n, o.seq, 1⟩) (by rw [List.length_set]; exact hlt)
    have h2 := sumL_set .wlk wC (l := c.wlks) (i := j) (x := ⟨(nth .wlk c.wlks j).id, (nth .wlk c.wlks j).pos, (nth .wlk c.wlks j).coins + o.n, (nth .wlk c.wlks j).seq, (nth .wlk c.wlks j).last⟩) hlj
    rw [h1, h2, nth_set_ne .wlk (Ne.symm hij)]
    simp only [wC]
    omega
  split
  · unfold doDrop
    split
    · simp only [cllFin, hset]; omega
    split
    · simp only [cllFin, hset]; omega
    · simp only [cllFin, hset]; omega
  split
  · unfold doPick
    split
    · simp only [cllFin, hset]; omega
    split
    · simp only [cllFin, hset]; omega
    · simp only [cllFin, hset]; omega
  split
  · unfold doThrow
    split
    · simp only [cllFin, hset]; omega
    split
    · simp only [cllFin, hset]; omega
    split
    · simp only [cllFin, hset]; omega
    · simp only [hset]
      rw [hsend _ _ (by omega)]
      simp only
      omega
  · simp only [cllFin, hset]; omega
theorem doX_coins {m : PMap} {c : Cll} {o : Ord} (h : 0 < (cllDoX m c o).code) : cllCoins m (cllDoX m c o).c = cllCoins m c := by
  unfold cllDoX at *
  split at h
  · rename_i hh
    rw [if_pos hh]
    unfold cllCoins
    rw [if_pos hh.1, if_pos (cllDo_ok hh.1 hh.2), cllDo_coins hh.1 hh.2]
  · exact absurd h (by decide)
theorem inX_coins {m : PMap} {c : Cll} {s : Int} {p : Pcl} (h : (cllInX m c s p).ok = true) : cllCoins m (cllInX m c s p).c = cllCoins m c + p.coins + p.wlk.coins := by
  have hok := inX_ok h
  unfold cllInX at *
  split at h
  · rename_i hh
    rw [if_pos hh] at hok ⊢
    unfold cllCoins
    rw [if_pos hh.1, if_pos hok]
    have hp := pclOk_iff.1 hh.2.1
    unfold cllRecv at *
    split at h
    · cases h
    rename_i e1
    rw [if_neg e1]
    split at h
    · rename_i e2
      rw [if_pos e2]
      have hz : zeroW p.wlk = true := by
        rcases hp.2.2.2 with h1 | h1
        · omega
        · exact h1.2.1
      simp [zeroW] at hz
      simp only
      omega
    rename_i e2
    rw [if_neg e2]
    split at h
    · cases h
    · rename_i e3
      rw [if_neg e3]
      have hn : wlkPlace c.wlks p.wlk.id < 0 := by
        rcases Int.lt_or_le (wlkPlace c.wlks p.wlk.id) 0 with h1 | h1
        · exact h1
        · exact absurd (.inl h1) e3
      have h1 : sumL wC (wlkPut c.wlks p.wlk) = sumL wC c.wlks + p.wlk.coins := by
        unfold wlkPut
        rw [sumL_ins, out_none hn]
        rfl
      have h2 : p.coins = 0 := by
        rcases hp.2.2.2 with g | g
        · exact g.2.2
        · exact absurd g.1 e2
      simp only
      rw [h1]
      omega
  · cases h

end Go.Mo

/-
  Plain law: in a log that fits no order stands twice.
-/
namespace Go.Mo
open Go.Sx

/-- All walkers of that number have done orders up to that one. -/
def past (c : Cll) (who seq : Int) : Prop := ∀ v ∈ c.wlks, v.id = who → seq ≤ v.seq
/-- A walker of a list in which one place has got a walker of the same number, with another order's number. -/
def upd1 (l : List Wlk) (i : Nat) (q : Int) (v : Wlk) : Prop := (v.id = (nth .wlk l i).id ∧ v.seq = q) ∨ ∃ j, j < l.length ∧ j ≠ i ∧ v.id = (nth .wlk l j).id ∧ v.seq = (nth .wlk l j).seq

theorem upd_set {l : List Wlk} {i : Nat} {q : Int} {a : Wlk} (ha : a.id = (nth .wlk l i).id) (hq : a.seq = q) : ∀ v ∈ l.set i a, upd1 l i q v := by
  intro v hv
  obtain ⟨k, hk, rfl⟩ := mem_nth .wlk hv
  rw [List.length_set] at hk
  by_cases h : i = k
  · subst h
    rw [nth_set_eq .wlk hk]
    exact .inl ⟨ha, hq⟩
  · rw [nth_set_ne .wlk h]
    exact .inr ⟨k, hk, Ne.symm h, rfl, rfl⟩
theorem upd_two {l : List Wlk} {i t : Nat} {q : Int} {a b : Wlk} (ha : a.id = (nth .wlk l i).id) (hq : a.seq = q) (hb : b.id = (nth .wlk l t).id) (hs : b.seq = (nth .wlk l t).seq) : ∀ v ∈ (l.set t b).set i a, upd1 l i q v := by
  intro v hv
  obtain ⟨k, hk, rfl⟩ := mem_nth .wlk hv
  rw [List.length_set, List.length_set] at hk
  by_cases h : i = k
  · subst h
    rw [nth_set_eq .wlk (by rw [List.length_set]; exact hk)]
    exact .inl ⟨ha, hq⟩
  · rw [nth_set_ne .wlk h]
    by_cases h2 : t = k
    · subst h2
      rw [nth_set_eq .wlk hk]
      exact .inr ⟨t, hk, Ne.symm h, hb, hs⟩
    · rw [nth_set_ne .wlk h2]
      exact .inr ⟨k, hk, Ne.symm h, rfl, rfl⟩
theorem fin_upd {c : Cll} {i : Nat} {w : Wlk} {g code : Int} (hw : w.id = (nth .wlk c.wlks i).id) : ∀ v ∈ (cllFin c i w g code).c.wlks, upd1 c.wlks i w.seq v := upd_set hw rfl
theorem out_sub {l : List Wlk} {id : Int} {v : Wlk} (h : v ∈ wlkOut l id) : v ∈ l := (List.mem_filter.1 h).1
theorem kind_upd {m : PMap} {c : Cll} {i : Nat} {w : Wlk} {o : Ord} (hw : w.id = (nth .wlk c.wlks i).id) : ∀ v ∈ (doKind m c i w o).c.wlks, upd1 c.wlks i w.seq v := by
  unfold doKind
  split
  · unfold doStep
    split
    · exact fin_upd hw
    split
    · exact fin_upd (w := ⟨w.id, w.pos + (2 * o.dest - 1), w.coins, w.seq, w.last⟩) hw
    split
    · exact fin_upd hw
    · exact fun v hv => upd_set hw rfl v (out_sub hv)
  split
  · unfold doGive
    split
    · exact fin_upd hw
    split
    · exact fin_upd hw
    split
    · exact fin_upd hw
    · exact upd_two hw rfl rfl rfl
  split
  · unfold doDrop
    split
    · exact fin_upd hw
    split
    · exact fin_upd hw
    · exact fin_upd (w := ⟨w.id, w.pos, w.coins - o.n, w.seq, w.last⟩) hw
  split
  · unfold doPick
    split
    · exact fin_upd hw
    split
    · exact fin_upd hw
    · exact fin_upd (w := ⟨w.id, w.pos, w.coins + o.n, w.seq, w.last⟩) hw
  split
  · unfold doThrow
    split
    · exact fin_upd hw
    split
    · exact fin_upd hw
    split
    · exact fin_upd hw
    · exact upd_set hw rfl
  · exact fin_upd hw
theorem do_upd {m : PMap} {c : Cll} {o : Ord} (h : cllFresh c o = true) : ∀ v ∈ (cllDo m c o).c.wlks, upd1 c.wlks (wlkPlace c.wlks o.who).toNat o.seq v := by
  obtain ⟨h1, h2⟩ := fresh_place h
  unfold cllDo
  rw [if_neg h1]
  dsimp only
  rw [if_neg (by omega), if_neg (by omega)]
  exact kind_upd (w := ⟨_, _, _, o.seq, _⟩) rfl
theorem do_past {m : PMap} {c : Cll} {o : Ord} (hk : cllOk m c = true) (h : cllFresh c o = true) : past (cllDo m c o).c o.who o.seq := by
  intro v hv hi
  have hh := fresh_has h
  have hl := has_lt hh
  have hid := id_w hh
  rcases do_upd h v hv with ⟨_, h2⟩ | ⟨j, hj, hne, h1, h2⟩
  · omega
  · have hs := (cllOk_iff.1 hk).2.1
    rcases Nat.lt_or_gt_of_ne hne with h3 | h3
    · have := hs j _ h3 hl.1
      omega
    · have := hs _ j h3 hj
      omega
theorem do_keep {m : PMap} {c : Cll} {o : Ord} {who seq : Int} (hp : past c who seq) (h : cllFresh c o = true) : past (cllDo m c o).c who seq := by
  intro v hv hi
  have hl := has_lt (fresh_has h)
  have h5 := (fresh_place h).2
  rcases do_upd h v hv with ⟨h1, h2⟩ | ⟨j, hj, hne, h1, h2⟩
  · have := hp _ (nth_mem .wlk hl.1) (by omega)
    omega
  · have := hp _ (nth_mem .wlk hj) (by omega)
    omega
theorem apply_keep {m : PMap} {c : Cll} {r : Rec} {who seq : Int} (hp : past c who seq) (hr : logOk m r = true) (hn : ¬ (r.kind = 2 ∧ r.pcl.kind = 1)) : past (cllApply m c r).c who seq := by
  unfold cllApply
  split
  · split
    · exact do_keep hp (by assumption)
    · exact hp
  split
  · exact hp
  split
  · rename_i hk
    have hq := pclOk_iff.1 (logOk_in hr hk)
    unfold cllRecv
    split
    · exact hp
    split
    · exact hp
    · rcases hq.2.2.2 with h | h
      · exact absurd ⟨hk, h.1⟩ hn
      · rename_i h2
        exact absurd h.1 h2
  · unfold cllRel
    split
    · exact hp
    · exact hp

/-- A walker comes with that record. -/
def wlkIn1 (r : Rec) : Bool := decide (r.kind = 2 ∧ r.pcl.kind = 1)
def backTo (l : List Rec) : Nat → Bool
  | 0 => false
  | k + 1 => backTo l k || wlkIn1 (nth .rcd l k)
theorem backTo_zero (l : List Rec) : backTo l 0 = false := rfl
theorem backTo_succ (l : List Rec) (k : Nat) : backTo l (k + 1) = (backTo l k || wlkIn1 (nth .rcd l k)) := rfl
theorem backTo_no {l : List Rec} {n : Nat} (h : backTo l n = false) : ∀ k, k < n → ¬ ((nth .rcd l k).kind = 2 ∧ (nth .rcd l k).pcl.kind = 1) := by
  induction n with
  | zero => intro k hk; omega
  | succ n ih =>
    rw [backTo_succ, Bool.or_eq_false_iff] at h
    intro k hk
    rcases Nat.lt_or_ge k n with h1 | h1
    · exact ih h.1 k h1
    · have : k = n := by omega
      subst this
      simpa [wlkIn1] using h.2
theorem fold_past {m : PMap} {c : Cll} {l : List Rec} (hk : cllOk m c = true) {n : Nat} (hf : allTo n (fitAt m c l) = true) (hb : backTo l n = false) {j : Nat} (hd : (nth .rcd l j).kind = 1) : ∀ k, j < k → k ≤ n → past (foldTo m c l k) (nth .rcd l j).ord.who (nth .rcd l j).ord.seq := by
  intro k
  induction k with
  | zero => intro h; omega
  | succ k ih =>
    intro h hn
    have hfk := (allTo_iff _ _).1 hf k (by omega)
    have hck : cllOk m (foldTo m c l k) = true := fold_ok hk (by rw [allTo_iff] at hf ⊢; exact fun i hi => hf i (by omega))
    simp only [fitAt, Bool.and_eq_true] at hfk
    rw [foldTo_succ]
    rcases Nat.lt_or_ge j k with h1 | h1
    · exact apply_keep (ih h1 (by omega)) hfk.1 (backTo_no hb k (by omega))
    · have : j = k := by omega
      subst this
      have h2 := hfk.2
      unfold cllApply at h2 ⊢
      rw [if_pos hd] at h2 ⊢
      split
      · exact do_past hck (by assumption)
      · rename_i h3
        rw [if_neg h3] at h2
        cases h2
theorem fold_once {m : PMap} {c : Cll} {l : List Rec} (hk : cllOk m c = true) {n : Nat} (hf : allTo n (fitAt m c l) = true) (hb : backTo l n = false) {j k : Nat} (hjk : j < k) (hkn : k < n) (hd : (nth .rcd l j).kind = 1) (hk1 : (nth .rcd l k).kind = 1) :
    ¬ ((nth .rcd l j).ord.who = (nth .rcd l k).ord.who ∧ (nth .rcd l j).ord.seq = (nth .rcd l k).ord.seq) := by
  rintro ⟨h1, h2⟩
  have hp := fold_past hk hf hb hd k hjk (by omega)
  have hfk := (allTo_iff _ _).1 hf k hkn
  simp only [fitAt, Bool.and_eq_true] at hfk
  have h3 := hfk.2
  unfold cllApply at h3
  rw [if_pos hk1] at h3
  split at h3
  · rename_i h4
    have h5 := fresh_place h4
    have h6 := id_w (fresh_has h4)
    have h7 := hp _ (nth_mem .wlk (has_lt (fresh_has h4)).1) (by rw [h6, h1])
    omega
  · cases h3
theorem nth_take (t : RT) {l : List t.ty} {n k : Nat} (h : k < n) : nth t (l.take n) k = nth t l k := by
  simp [nth, List.getD, h]
theorem cnt_once {m : PMap} {c : Cll} {l : List Rec} (hk : cllOk m c = true) {n : Nat} (hf : allTo n (fitAt m c l) = true) (hn : n ≤ l.length) (hb : backTo l n = false) {i : Nat} (hi : i < n) (hd : (nth .rcd l i).kind = 1) : logCount (l.take n) (nth .rcd l i).ord.who (nth .rcd l i).ord.seq = 1 := by
  have hlen : (l.take n).length = n := by simp; omega
  have h : ∀ k, k ≤ n → cntTo (l.take n) (nth .rcd l i).ord.who (nth .rcd l i).ord.seq k = if i < k then 1 else 0 := by
    intro k
    induction k with
    | zero => intro _; rw [cntTo_zero]; simp
    | succ k ih =>
      intro hkn
      have h1 := ih (by omega)
      have hnt : nth .rcd (l.take n) k = nth .rcd l k := nth_take .rcd (by omega)
      by_cases he : i = k
      · subst he
        rw [cntTo_yes (by omega) (by rw [hnt]; exact ⟨hd, rfl, rfl⟩), h1]
        simp
      · rw [cntTo_no (by omega), h1]
        · by_cases h2 : i < k
          · rw [if_pos h2, if_pos (by omega)]
          · rw [if_neg h2, if_neg (by omega)]
        · rw [hnt]
          rintro ⟨h2, h3, h4⟩
          rcases Nat.lt_or_gt_of_ne he with h5 | h5
          · exact fold_once hk hf hb h5 (by omega) hd h2 ⟨h3.symm, h4.symm⟩
          · exact fold_once hk hf hb h5 hi h2 hd ⟨h3, h4⟩
  rw [logCount, hlen, h n (by omega), if_pos hi]
/-- The law, over LogFold's own number. -/
theorem logFold_once {m : PMap} {c : Cll} {l : List Rec} {i : Nat} (hi : (i : Int) < (logFold m c l).n) (hd : (nth .rcd l i).kind = 1) (hb : backTo l (logFold m c l).n.toNat = false) : logCount (l.take (logFold m c l).n.toNat) (nth .rcd l i).ord.who (nth .rcd l i).ord.seq = 1 := by
  unfold logFold at *
  split at hi
  · rename_i h
    rw [if_pos h] at hb ⊢
    exact cnt_once h.1 (foldN_fits m c l) (foldN_le m c l) hb (by simpa using hi) hd
  · simp at hi
    omega
theorem logFold_le (m : PMap) (c : Cll) (l : List Rec) : 0 ≤ (logFold m c l).n ∧ (logFold m c l).n ≤ l.length ∧ (logFold m c l).n ≤ 250 := by
  unfold logFold
  have := foldN_le m c l
  split
  · rename_i h
    have := h.2
    simp
    omega
  · simp

end Go.Mo

/-
  Plain models: stores and holds.
-/
namespace Go.Mo
open Go.Sx

def zeroS : Sto := ⟨0, zeroC, []⟩
def zeroH : Hld := ⟨0, 0, zeroC⟩
def stoOk (m : PMap) (s : Sto) : Bool := decide (0 ≤ s.age ∧ s.age ≤ 900 ∧ cllOk m s.base = true ∧ s.recs.length ≤ 250 ∧ foldN m s.base s.recs = s.recs.length)
theorem stoOk_iff {m : PMap} {s : Sto} : stoOk m s = true ↔ (0 ≤ s.age ∧ s.age ≤ 900) ∧ cllOk m s.base = true ∧ s.recs.length ≤ 250 ∧ foldN m s.base s.recs = s.recs.length := by simp [stoOk, and_assoc]
def stoState (m : PMap) (s : Sto) : Cll := foldC m s.base s.recs
def stoStateX (m : PMap) (s : Sto) : Cll := if stoOk m s = true then stoState m s else zeroC
theorem state_ok {m : PMap} {s : Sto} (h : stoOk m s = true) : cllOk m (stoState m s) = true := foldC_ok (stoOk_iff.1 h).2.1
structure SOk where
  s : Sto
  ok : Bool
def stoFence (m : PMap) (s : Sto) (age : Int) : SOk :=
  if stoOk m s = true ∧ 0 ≤ age ∧ age ≤ 900 then (if age < s.age then ⟨s, false⟩ else ⟨⟨age, s.base, s.recs⟩, true⟩) else ⟨zeroS, false⟩
structure SN where
  s : Sto
  n : Int
def stoAdd (m : PMap) (s : Sto) (age pos : Int) (r : Rec) : SN :=
  if ¬ age = s.age then ⟨s, 2⟩
  else if ¬ pos = (s.recs.length : Int) ∨ pos = 250 then ⟨s, 3⟩
  else if logOk m r = true ∧ (cllApply m (stoState m s) r).ok = true then ⟨⟨s.age, s.base, s.recs ++ [r]⟩, 1⟩
  else ⟨s, 4⟩
def stoAppend (m : PMap) (s : Sto) (age pos : Int) (r : Rec) : SN := if stoOk m s = true then stoAdd m s age pos r else ⟨zeroS, 0⟩
def hldOk (m : PMap) (h : Hld) : Bool := decide (1 ≤ h.age ∧ h.age ≤ 900 ∧ 0 ≤ h.count ∧ h.count ≤ 250 ∧ cllOk m h.state = true)
theorem hldOk_iff {m : PMap} {h : Hld} : hldOk m h = true ↔ (1 ≤ h.age ∧ h.age ≤ 900) ∧ (0 ≤ h.count ∧ h.count ≤ 250) ∧ cllOk m h.state = true := by simp [hldOk, and_assoc]
structure HSO where
  h : Hld
  s : Sto
  ok : Bool
def hldOpen (m : PMap) (s : Sto) (age : Int) : HSO :=
  if stoOk m s = true ∧ 1 ≤ age ∧ age ≤ 900 then (if age < s.age then ⟨zeroH, s, false⟩ else ⟨⟨age, s.recs.length, stoState m s⟩, ⟨age, s.base, s.recs⟩, true⟩) else ⟨zeroH, zeroS, false⟩
structure HSN where
  h : Hld
  s : Sto
  n : Int
  k : Int
def hldWrite (m : PMap) (h : Hld) (s : Sto) (r : Rec) : HSN :=
  if hldOk m h = true ∧ stoOk m s = true then
    (if ¬ (stoAdd m s h.age h.count r).n = 1 then ⟨h, s, (stoAdd m s h.age h.count r).n, 0⟩
    else if (cllApply m h.state r).ok = false then ⟨h, s, 4, 0⟩
    else ⟨⟨h.age, h.count + 1, (cllApply m h.state r).c⟩, (stoAdd m s h.age h.count r).s, 1, (cllApply m h.state r).code⟩)
  else ⟨zeroH, zeroS, 0, 0⟩

/-! ## One record more -/
theorem nth_app (t : RT) {l : List t.ty} {x : t.ty} {k : Nat} (h : k < l.length) : nth t (l ++ [x]) k = nth t l k := by
  rw [nth_lt t l k h, nth_lt t _ k (by simp; omega), List.getElem_append_left h]
theorem nth_last (t : RT) {l : List t.ty} {x : t.ty} : nth t (l ++ [x]) l.length = x := by simp [nth, List.getD]
theorem foldTo_app {m : PMap} {c : Cll} {l : List Rec} {r : Rec} : ∀ {k : Nat}, k ≤ l.length → foldTo m c (l ++ [r]) k = foldTo m c l k
  | 0, _ => rfl
  | k + 1, h => by rw [foldTo_succ, foldTo_succ, foldTo_app (by omega), nth_app .rcd (by omega)]
theorem fitAt_app {m : PMap} {c : Cll} {l : List Rec} {r : Rec} {k : Nat} (h : k < l.length) : fitAt m c (l ++ [r]) k = fitAt m c l k := by
  unfold fitAt
  rw [foldTo_app (by omega), nth_app .rcd h]
theorem fits_all {m : PMap} {c : Cll} {l : List Rec} (h : foldN m c l = l.length) : allTo l.length (fitAt m c l) = true := by
  have := foldN_fits m c l
  rw [h] at this
  exact this
theorem foldC_all {m : PMap} {c : Cll} {l : List Rec} (h : foldN m c l = l.length) : foldC m c l = foldTo m c l l.length := by rw [foldC, h]
theorem foldN_app {m : PMap} {c : Cll} {l : List Rec} {r : Rec} (h : foldN m c l = l.length) (hr : logOk m r = true) (ha : (cllApply m (foldC m c l) r).ok = true) : foldN m c (l ++ [r]) = (l ++ [r]).length := by
  have h1 := fits_all h
  refine foldN_all rfl ?_
  rw [List.length_append, List.length_singleton, allTo_succ, Bool.and_eq_true]
  refine ⟨?_, ?_⟩
  · rw [allTo_iff] at h1 ⊢
    intro i hi
    rw [fitAt_app hi]
    exact h1 i hi
  · unfold fitAt
    rw [foldTo_app (Nat.le_refl _), nth_last .rcd, ← foldC_all h, hr, ha]
    rfl
theorem foldC_app {m : PMap} {c : Cll} {l : List Rec} {r : Rec} (h : foldN m c l = l.length) (hr : logOk m r = true) (ha : (cllApply m (foldC m c l) r).ok = true) : foldC m c (l ++ [r]) = (cllApply m (foldC m c l) r).c := by
  rw [foldC_all (foldN_app h hr ha), List.length_append, List.length_singleton, foldTo_succ, foldTo_app (Nat.le_refl _), nth_last .rcd, ← foldC_all h]
/-- What an adding leaves: the store as it was, or one record more. -/
theorem add_cases (m : PMap) (s : Sto) (age pos : Int) (r : Rec) : ((stoAdd m s age pos r).s = s ∧ ((stoAdd m s age pos r).n = 2 ∧ age ≠ s.age ∨ (stoAdd m s age pos r).n = 3 ∧ age = s.age ∧ (pos ≠ s.recs.length ∨ pos = 250) ∨ (stoAdd m s age pos r).n = 4 ∧ age = s.age ∧ ¬ (logOk m r = true ∧ (cllApply m (stoState m s) r).ok = true))) ∨
    ((stoAdd m s age pos r).s = ⟨s.age, s.base, s.recs ++ [r]⟩ ∧ (stoAdd m s age pos r).n = 1 ∧ age = s.age ∧ pos = s.recs.length ∧ pos ≠ 250 ∧ logOk m r = true ∧ (cllApply m (stoState m s) r).ok = true) := by
  unfold stoAdd
  split
  · exact .inl ⟨rfl, .inl ⟨rfl, by assumption⟩⟩
  split
  · rename_i h1 h2
    exact .inl ⟨rfl, .inr (.inl ⟨rfl, Classical.not_not.1 h1, h2⟩)⟩
  split
  · rename_i h1 h2 h3
    exact .inr ⟨rfl, rfl, Classical.not_not.1 h1, by omega, by omega, h3.1, h3.2⟩
  · rename_i h1 h2 h3
    exact .inl ⟨rfl, .inr (.inr ⟨rfl, Classical.not_not.1 h1, h3⟩)⟩
theorem add_ok {m : PMap} {s : Sto} {age pos : Int} {r : Rec} (h : stoOk m s = true) : stoOk m (stoAdd m s age pos r).s = true := by
  rcases add_cases m s age pos r with ⟨h1, _⟩ | ⟨h1, _, h3, h4, h5, h6, h7⟩
  · rw [h1]; exact h
  · have h2 := stoOk_iff.1 h
    rw [h1, stoOk_iff]
    refine ⟨h2.1, h2.2.1, ?_, foldN_app h2.2.2.2 h6 h7⟩
    simp
    omega
theorem add_state {m : PMap} {s : Sto} {age pos : Int} {r : Rec} (h : stoOk m s = true) (hn : (stoAdd m s age pos r).n = 1) : stoState m (stoAdd m s age pos r).s = (cllApply m (stoState m s) r).c := by
  rcases add_cases m s age pos r with ⟨_, h2⟩ | ⟨h1, _, h3, h4, h5, h6, h7⟩
  · omega
  · rw [h1]
    exact foldC_app (stoOk_iff.1 h).2.2.2 h6 h7

end Go.Mo

/-
  Plain law: a log is its beginning, and then the rest; what does not fit changes nothing.
-/
namespace Go.Mo
open Go.Sx

theorem nth_drop (t : RT) {l : List t.ty} {a k : Nat} : nth t (l.drop a) k = nth t l (a + k) := by
  simp [nth, List.getD, List.getElem?_drop]
theorem foldTo_take {m : PMap} {c : Cll} {l : List Rec} {n : Nat} : ∀ {k : Nat}, k ≤ n → foldTo m c (l.take n) k = foldTo m c l k
  | 0, _ => rfl
  | k + 1, h => by rw [foldTo_succ, foldTo_succ, foldTo_take (by omega), nth_take .rcd (by omega)]
theorem fitAt_take {m : PMap} {c : Cll} {l : List Rec} {n k : Nat} (h : k < n) : fitAt m c (l.take n) k = fitAt m c l k := by
  unfold fitAt
  rw [foldTo_take (by omega), nth_take .rcd h]
theorem foldTo_drop {m : PMap} {c : Cll} {l : List Rec} {a : Nat} : ∀ {k : Nat}, foldTo m (foldTo m c l a) (l.drop a) k = foldTo m c l (a + k)
  | 0 => rfl
  | k + 1 => by rw [foldTo_succ, foldTo_drop, nth_drop, ← foldTo_succ]; rfl
theorem fitAt_drop {m : PMap} {c : Cll} {l : List Rec} {a k : Nat} : fitAt m (foldTo m c l a) (l.drop a) k = fitAt m c l (a + k) := by
  unfold fitAt
  rw [foldTo_drop, nth_drop]
theorem fold_take {m : PMap} {c : Cll} {l : List Rec} {k : Nat} (h : k ≤ foldN m c l) : foldN m c (l.take k) = k ∧ foldC m c (l.take k) = foldTo m c l k := by
  have hl := foldN_le m c l
  have hf := foldN_fits m c l
  have h1 : foldN m c (l.take k) = k := foldN_all (by simp; omega) (by
    rw [allTo_iff] at hf ⊢
    intro i hi
    rw [fitAt_take hi]
    exact hf i (by omega))
  exact ⟨h1, by rw [foldC, h1, foldTo_take (Nat.le_refl _)]⟩
theorem fold_rest {m : PMap} {c : Cll} {l : List Rec} {k : Nat} (h : k ≤ foldN m c l) : foldN m (foldTo m c l k) ((l.take (foldN m c l)).drop k) = foldN m c l - k ∧ foldC m (foldTo m c l k) ((l.take (foldN m c l)).drop k) = foldC m c l := by
  have hl := foldN_le m c l
  have hf := foldN_fits m c l
  generalize hn : foldN m c l = n at *
  have e1 : foldTo m c l k = foldTo m c (l.take n) k := (foldTo_take h).symm
  have h1 : foldN m (foldTo m c l k) ((l.take n).drop k) = n - k := by
    rw [e1]
    refine foldN_all (by simp; omega) ?_
    rw [allTo_iff] at hf ⊢
    intro i hi
    rw [fitAt_drop, fitAt_take (by omega)]
    exact hf _ (by omega)
  refine ⟨h1, ?_⟩
  rw [foldC, h1, e1, foldTo_drop, foldTo_take (by omega), foldC, hn]
  congr 1
  omega
theorem lf_first {m : PMap} {c : Cll} {l : List Rec} {k : Int} (h : cllOk m c = true) (hl : l.length ≤ 250) (h0 : 0 ≤ k) (h1 : k ≤ (logFold m c l).n) : (logFold m c (l.take k.toNat)).n = k ∧ (logFold m c (l.take k.toNat)).c = foldTo m c l k.toNat ∧ cllOk m (logFold m c (l.take k.toNat)).c = true := by
  have e : logFold m c l = ⟨foldC m c l, foldN m c l⟩ := by rw [logFold, if_pos ⟨h, hl⟩]
  rw [e] at h1
  have h1 : k ≤ (foldN m c l : Int) := h1
  have h2 := fold_take (m := m) (c := c) (l := l) (k := k.toNat) (by omega)
  have e2 : logFold m c (l.take k.toNat) = ⟨foldTo m c l k.toNat, k⟩ := by
    rw [logFold, if_pos ⟨h, by simp; omega⟩, h2.1, h2.2]
    congr 1
    omega
  rw [e2]
  refine ⟨rfl, rfl, fold_ok h ?_⟩
  have hf := foldN_fits m c l
  rw [allTo_iff] at hf ⊢
  exact fun i hi => hf i (by omega)
theorem lf_rest {m : PMap} {c : Cll} {l : List Rec} {k : Int} (h : cllOk m c = true) (hl : l.length ≤ 250) (h0 : 0 ≤ k) (h1 : k ≤ (logFold m c l).n) :
    (logFold m (logFold m c (l.take k.toNat)).c ((l.take (logFold m c l).n.toNat).drop k.toNat)).n = (logFold m c l).n - k ∧ (logFold m (logFold m c (l.take k.toNat)).c ((l.take (logFold m c l).n.toNat).drop k.toNat)).c = (logFold m c l).c := by
  obtain ⟨_, h3, h4⟩ := lf_first h hl h0 h1
  rw [h3] at h4 ⊢
  have e : logFold m c l = ⟨foldC m c l, foldN m c l⟩ := by rw [logFold, if_pos ⟨h, hl⟩]
  rw [e] at h1 ⊢
  have h1 : k ≤ (foldN m c l : Int) := h1
  have h2 := fold_rest (m := m) (c := c) (l := l) (k := k.toNat) (by omega)
  simp only [Int.toNat_natCast]
  rw [logFold, if_pos ⟨h4, by simp; omega⟩, h2.1, h2.2]
  exact ⟨by simp; omega, rfl⟩
theorem do_no {m : PMap} {c : Cll} {r : Rec} (h : (cllApply m c r).ok = false) : (cllApply m c r).c = c ∧ (cllApply m c r).code = 0 := by
  unfold cllApply at *
  split at h
  · split at h
    · cases h
    · rename_i h1 h2
      rw [if_pos h1, if_neg h2]
      exact ⟨rfl, rfl⟩
  split at h
  · rename_i h1 h2
    rw [if_neg h1, if_pos h2]
    exact ⟨rfl, rfl⟩
  split at h
  · rename_i h1 h2 h3
    rw [if_neg h1, if_neg h2, if_pos h3]
    exact ⟨recv_no h, rfl⟩
  · rename_i h1 h2 h3
    rw [if_neg h1, if_neg h2, if_neg h3]
    exact ⟨rel_no h, rfl⟩
theorem lf_ok {m : PMap} {c : Cll} {l : List Rec} (h : cllOk m c = true) (hl : l.length ≤ 250) : cllOk m (logFold m c l).c = true := by
  rw [logFold, if_pos ⟨h, hl⟩]
  exact foldC_ok h
/-- One that does not fit: it changes nothing. -/
theorem lf_next {m : PMap} {c : Cll} {l : List Rec} (h : cllOk m c = true) (hl : l.length ≤ 250) (hn : (logFold m c l).n < l.length) :
    (cllApplyX m (logFold m c l).c (nth .rcd l (logFold m c l).n.toNat)).ok = false ∧ ((cllApplyX m (logFold m c l).c (nth .rcd l (logFold m c l).n.toNat)).c = (logFold m c l).c ∨ (cllApplyX m (logFold m c l).c (nth .rcd l (logFold m c l).n.toNat)).c = zeroC) := by
  have e : logFold m c l = ⟨foldC m c l, foldN m c l⟩ := by rw [logFold, if_pos ⟨h, hl⟩]
  rw [e] at hn ⊢
  have hn : (foldN m c l : Int) < l.length := hn
  simp only [Int.toNat_natCast]
  have hf : fitAt m c l (foldN m c l) = false := by
    unfold foldN at hn ⊢
    cases hq : (List.range l.length).find? fun k => !fitAt m c l k with
    | none =>
      rw [hq] at hn
      simp at hn
    | some k =>
      have := (List.find?_range_eq_some.1 hq).1
      simpa using this
  unfold fitAt at hf
  rw [← foldC] at hf
  unfold cllApplyX
  by_cases hr : logOk m (nth .rcd l (foldN m c l)) = true
  · rw [if_pos ⟨foldC_ok h, hr⟩]
    rw [hr, Bool.true_and] at hf
    exact ⟨hf, .inl (do_no hf).1⟩
  · rw [if_neg (fun hh => hr hh.2)]
    exact ⟨rfl, .inr rfl⟩

end Go.Mo

/-
  Plain law: a record does what it says.
-/
namespace Go.Mo
open Go.Sx

def cllAckX (m : PMap) (c : Cll) (s n : Int) : CB := if cllOk m c = true ∧ ¬ plcSide m c.cell s = -1 then cllRel c s.toNat n else ⟨zeroC, false⟩
def freshX (m : PMap) (c : Cll) (o : Ord) : Bool := cllOk m c && ordOk o && cllFresh c o
theorem apX {m : PMap} {c : Cll} {r : Rec} (hc : cllOk m c = true) (hr : logOk m r = true) : cllApplyX m c r = cllApply m c r := by rw [cllApplyX, if_pos ⟨hc, hr⟩]
theorem ap_bad {m : PMap} {c : Cll} {r : Rec} (h : cllOk m c = false ∨ logOk m r = false) : (cllApplyX m c r).c = zeroC ∧ (cllApplyX m c r).ok = false := by
  rw [cllApplyX, if_neg]
  · exact ⟨rfl, rfl⟩
  · rintro ⟨h1, h2⟩
    rcases h with h | h <;> simp_all
theorem ap_no {m : PMap} {c : Cll} {r : Rec} (hc : cllOk m c = true) (hr : logOk m r = true) (h : (cllApplyX m c r).ok = false) : (cllApplyX m c r).c = c ∧ (cllApplyX m c r).code = 0 := by
  rw [apX hc hr] at h ⊢
  exact do_no h
theorem ap_do {m : PMap} {c : Cll} {r : Rec} (hc : cllOk m c = true) (hr : logOk m r = true) (h : (cllApplyX m c r).ok = true) (hk : r.kind = 1) :
    (cllApplyX m c r).c = (cllDoX m c r.ord).c ∧ (cllApplyX m c r).code = (cllDoX m c r.ord).code ∧ freshX m c r.ord = true := by
  rw [apX hc hr] at h ⊢
  have ho := logOk_do hr hk
  unfold cllApply at h ⊢
  rw [if_pos hk] at h ⊢
  split at h
  · rename_i hf
    rw [if_pos hf, cllDoX, if_pos ⟨hc, ho⟩]
    exact ⟨rfl, rfl, by simp [freshX, hc, ho, hf]⟩
  · cases h
theorem ap_in {m : PMap} {c : Cll} {r : Rec} (hc : cllOk m c = true) (hr : logOk m r = true) (h : (cllApplyX m c r).ok = true) (hk : r.kind = 2) :
    (cllApplyX m c r).c = (cllInX m c r.side r.pcl).c ∧ (cllInX m c r.side r.pcl).ok = true := by
  rw [apX hc hr] at h ⊢
  have hp := logOk_in hr hk
  unfold cllApply at h ⊢
  rw [if_neg (by omega)] at h ⊢
  split at h
  · cases h
  · rename_i hs
    rw [if_neg hs, if_pos hk]
    rw [cllInX, if_pos ⟨hc, hp, hs⟩]
    exact ⟨rfl, h⟩
theorem ap_ack {m : PMap} {c : Cll} {r : Rec} (hc : cllOk m c = true) (hr : logOk m r = true) (h : (cllApplyX m c r).ok = true) (hk : ¬ r.kind = 1) (hk2 : ¬ r.kind = 2) :
    (cllApplyX m c r).c = (cllAckX m c r.side r.n).c ∧ (cllAckX m c r.side r.n).ok = true := by
  rw [apX hc hr] at h ⊢
  unfold cllApply at h ⊢
  rw [if_neg hk] at h ⊢
  split at h
  · cases h
  · rename_i hs
    rw [if_neg hs, if_neg hk2]
    rw [cllAckX, if_pos ⟨hc, hs⟩]
    exact ⟨rfl, h⟩

end Go.Mo

/-
  Plain laws: stores and holds.
-/
namespace Go.Mo
open Go.Sx

theorem stateX {m : PMap} {s : Sto} (h : stoOk m s = true) : stoStateX m s = stoState m s := by rw [stoStateX, if_pos h]
theorem append_bad {m : PMap} {s : Sto} {a b : Int} {r : Rec} (h : stoOk m s = false) : (stoAppend m s a b r).s = zeroS ∧ (stoAppend m s a b r).n = 0 := by
  rw [stoAppend, if_neg (by simp [h])]
  exact ⟨rfl, rfl⟩
theorem append_add {m : PMap} {s : Sto} {a b : Int} {r : Rec} (h : stoOk m s = true) : stoAppend m s a b r = stoAdd m s a b r := by rw [stoAppend, if_pos h]
theorem fits_iff {m : PMap} {s : Sto} {r : Rec} (h : stoOk m s = true) : (cllApplyX m (stoStateX m s) r).ok = true ↔ logOk m r = true ∧ (cllApply m (stoState m s) r).ok = true := by
  rw [stateX h, cllApplyX]
  by_cases hr : logOk m r = true
  · rw [if_pos ⟨state_ok h, hr⟩]
    simp [hr]
  · rw [if_neg (fun hh => hr hh.2)]
    simp [hr]
theorem append_done {m : PMap} {s : Sto} {a b : Int} {r : Rec} (h : stoOk m s = true) : (stoAppend m s a b r).n = 1 ↔ a = s.age ∧ b = s.recs.length ∧ b < 250 ∧ (cllApplyX m (stoStateX m s) r).ok = true := by
  rw [append_add h, fits_iff h]
  have hl := (stoOk_iff.1 h).2.2.1
  rcases add_cases m s a b r with ⟨_, h2⟩ | ⟨_, h2, h3, h4, h5, h6, h7⟩
  · constructor
    · intro h9; omega
    · rintro ⟨h3, h4, h5, h6⟩
      rcases h2 with h2 | h2 | h2
      · exact absurd h3 h2.2
      · omega
      · exact absurd h6 h2.2.2
  · exact ⟨fun _ => ⟨h3, h4, by omega, h6, h7⟩, fun _ => h2⟩
theorem append_not {m : PMap} {s : Sto} {a b : Int} {r : Rec} (h : stoOk m s = true) (hn : ¬ (stoAppend m s a b r).n = 1) : (stoAppend m s a b r).s = s := by
  rw [append_add h] at *
  rcases add_cases m s a b r with ⟨h1, h2⟩ | ⟨h1, h2, _⟩
  · exact h1
  · exact absurd h2 hn
theorem append_is {m : PMap} {s : Sto} {a b : Int} {r : Rec} (h : stoOk m s = true) (hn : (stoAppend m s a b r).n = 1) :
    (stoAppend m s a b r).s = ⟨s.age, s.base, s.recs ++ [r]⟩ ∧ stoOk m (stoAppend m s a b r).s = true ∧ b = s.recs.length ∧ stoStateX m (stoAppend m s a b r).s = (cllApplyX m (stoStateX m s) r).c := by
  rw [append_add h] at *
  have hok := add_ok (age := a) (pos := b) (r := r) h
  have hst := add_state (age := a) (pos := b) (r := r) h hn
  rcases add_cases m s a b r with ⟨_, h2⟩ | ⟨h1, h2, h3, h4, h5, h6, h7⟩
  · omega
  · refine ⟨h1, hok, h4, ?_⟩
    rw [stateX hok, hst, stateX h, cllApplyX, if_pos ⟨state_ok h, h6⟩]
theorem fence_not {m : PMap} {s : Sto} {a : Int} (h : (stoFence m s a).ok = false) : (stoFence m s a).s = s ∨ (stoFence m s a).s = zeroS := by
  unfold stoFence at *
  split at h
  · split at h
    · rename_i h1 h2
      rw [if_pos h1, if_pos h2]
      exact .inl rfl
    · cases h
  · rename_i h1
    rw [if_neg h1]
    exact .inr rfl
theorem fence_is {m : PMap} {s : Sto} {a : Int} (h : (stoFence m s a).ok = true) : (stoFence m s a).s = ⟨a, s.base, s.recs⟩ ∧ stoOk m (stoFence m s a).s = true ∧ s.age ≤ a ∧ 0 ≤ a ∧ a ≤ 900 := by
  unfold stoFence at *
  split at h
  · split at h
    · cases h
    · rename_i h1 h2
      rw [if_pos h1, if_neg h2]
      have h3 := stoOk_iff.1 h1.1
      exact ⟨rfl, stoOk_iff.2 ⟨⟨h1.2.1, h1.2.2⟩, h3.2⟩, by omega, h1.2⟩
  · cases h
theorem append_fenced {m : PMap} {s : Sto} {a b : Int} {r : Rec} (h : stoOk m s = true) (ha : ¬ a = s.age) : (stoAppend m s a b r).s = s ∧ (stoAppend m s a b r).n = 2 := by
  rw [append_add h, stoAdd, if_pos ha]
  exact ⟨rfl, rfl⟩

theorem age_ok {m : PMap} {s : Sto} {a : Int} (h : stoOk m s = true) (h1 : 0 ≤ a) (h2 : a ≤ 900) : stoOk m ⟨a, s.base, s.recs⟩ = true ∧ stoStateX m ⟨a, s.base, s.recs⟩ = stoStateX m s := by
  have h3 := stoOk_iff.1 h
  have h4 : stoOk m ⟨a, s.base, s.recs⟩ = true := stoOk_iff.2 ⟨⟨h1, h2⟩, h3.2⟩
  exact ⟨h4, by rw [stateX h, stateX h4]; rfl⟩
theorem open_not {m : PMap} {s : Sto} {a : Int} (h : (hldOpen m s a).ok = false) : (hldOpen m s a).h = zeroH := by
  unfold hldOpen at *
  split at h
  · split at h
    · rename_i h1 h2
      rw [if_pos h1, if_pos h2]
    · cases h
  · rename_i h1
    rw [if_neg h1]
theorem open_is {m : PMap} {s : Sto} {a : Int} (h : (hldOpen m s a).ok = true) : (hldOpen m s a).h = ⟨a, s.recs.length, stoStateX m s⟩ ∧ (hldOpen m s a).s = ⟨a, s.base, s.recs⟩ ∧ stoOk m s = true ∧ s.age ≤ a ∧ 1 ≤ a ∧ a ≤ 900 ∧ stoOk m ⟨a, s.base, s.recs⟩ = true ∧ hldOk m ⟨a, s.recs.length, stoStateX m s⟩ = true ∧ stoStateX m ⟨a, s.base, s.recs⟩ = stoStateX m s := by
  unfold hldOpen at *
  split at h
  · split at h
    · cases h
    · rename_i h1 h2
      rw [if_pos h1, if_neg h2, stateX h1.1]
      have h3 := age_ok h1.1 (a := a) (by omega) (by omega)
      refine ⟨rfl, rfl, h1.1, by omega, h1.2.1, h1.2.2, h3.1, hldOk_iff.2 ⟨h1.2, ⟨by simp, ?_⟩, state_ok h1.1⟩, by rw [h3.2, stateX h1.1]⟩
      have := (stoOk_iff.1 h1.1).2.2.1
      simp
      omega
  · cases h
theorem open_again {m : PMap} {s : Sto} {a : Int} (h : (hldOpen m s a).ok = true) : (hldOpen m (hldOpen m s a).s a).ok = true ∧ (hldOpen m (hldOpen m s a).s a).h = (hldOpen m s a).h ∧ (hldOpen m (hldOpen m s a).s a).s = (hldOpen m s a).s ∧
    (hldOpen m (hldOpen m s a).s (a - 1)).ok = false ∧ ((hldOpen m (hldOpen m s a).s (a - 1)).s = (hldOpen m s a).s ∨ a = 1) := by
  obtain ⟨h1, h2, h3, h4, h5, h6, h7, h8, h9⟩ := open_is h
  rw [h1, h2]
  have e : hldOpen m ⟨a, s.base, s.recs⟩ a = ⟨⟨a, s.recs.length, stoStateX m s⟩, ⟨a, s.base, s.recs⟩, true⟩ := by
    rw [hldOpen, if_pos ⟨h7, h5, h6⟩, if_neg (by simp), ← h9, stateX h7]
  rw [e]
  refine ⟨rfl, rfl, rfl, ?_⟩
  unfold hldOpen
  by_cases ha : 1 ≤ a - 1
  · rw [if_pos ⟨h7, ha, by omega⟩, if_pos (by show a - 1 < a; omega)]
    exact ⟨rfl, .inl rfl⟩
  · rw [if_neg (by omega)]
    exact ⟨rfl, .inr (by omega)⟩
theorem write_bad {m : PMap} {h : Hld} {s : Sto} {r : Rec} (hb : hldOk m h = false ∨ stoOk m s = false) : (hldWrite m h s r).h = zeroH ∧ (hldWrite m h s r).s = zeroS ∧ (hldWrite m h s r).n = 0 := by
  rw [hldWrite, if_neg]
  · exact ⟨rfl, rfl, rfl⟩
  · rintro ⟨h1, h2⟩
    rcases hb with hb | hb <;> simp_all
theorem write_not {m : PMap} {h : Hld} {s : Sto} {r : Rec} (hh : hldOk m h = true) (hs : stoOk m s = true) (hn : ¬ (hldWrite m h s r).n = 1) : (hldWrite m h s r).h = h ∧ (hldWrite m h s r).s = s ∧ (h.age = s.age ∨ (hldWrite m h s r).n = 2) := by
  unfold hldWrite at *
  rw [if_pos ⟨hh, hs⟩] at hn ⊢
  split
  · refine ⟨rfl, rfl, ?_⟩
    rcases add_cases m s h.age h.count r with ⟨_, h2⟩ | ⟨_, h2, h3, _⟩
    · show h.age = s.age ∨ (stoAdd m s h.age h.count r).n = 2
      omega
    · exact .inl h3
  split
  · rename_i h1 h2
    refine ⟨rfl, rfl, .inl ?_⟩
    rcases add_cases m s h.age h.count r with ⟨_, h2⟩ | ⟨_, h2, h3, _⟩
    · omega
    · exact h3
  · rename_i h1 h2
    rw [if_neg h1, if_neg h2] at hn
    exact absurd rfl hn
theorem write_done {m : PMap} {h : Hld} {s : Sto} {r : Rec} (hn : (hldWrite m h s r).n = 1) : hldOk m h = true ∧ stoOk m s = true ∧ h.age = s.age ∧ h.count = s.recs.length ∧ h.count < 250 ∧ (hldWrite m h s r).h.count = (hldWrite m h s r).s.recs.length ∧ (h.state = stoStateX m s → (hldWrite m h s r).h.state = stoStateX m (hldWrite m h s r).s) ∧
    (cllApplyX m h.state r).ok = true := by
  unfold hldWrite at *
  split at hn
  · rename_i hc
    rw [if_pos hc]
    split at hn
    · rename_i h1
      exact absurd hn h1
    split at hn
    · cases hn
    · rename_i h1 h2
      rw [if_neg h1, if_neg h2]
      have h1 : (stoAdd m s h.age h.count r).n = 1 := Classical.not_not.1 h1
      have hst := add_state hc.2 h1
      have hok := add_ok (age := h.age) (pos := h.count) (r := r) hc.2
      have hl := (stoOk_iff.1 hc.2).2.2.1
      rcases add_cases m s h.age h.count r with ⟨_, h3⟩ | ⟨h3, h4, h5, h6, h7, h8, h9⟩
      · omega
      · refine ⟨hc.1, hc.2, h5, h6, by omega, ?_, ?_, ?_⟩
        · rw [h3]
          simp
          omega
        · intro he
          show (cllApply m h.state r).c = stoStateX m (stoAdd m s h.age h.count r).s
          rw [stateX hok, hst, he, stateX hc.2]
        · rw [cllApplyX, if_pos ⟨(hldOk_iff.1 hc.1).2.2, h8⟩]
          simpa using h2
  · cases hn
/-- One that holds an earlier age writes nothing. -/
theorem write_fenced {m : PMap} {h : Hld} {s : Sto} {r : Rec} (hh : hldOk m h = true) (hs : stoOk m s = true) (ha : ¬ h.age = s.age) : (hldWrite m h s r).h = h ∧ (hldWrite m h s r).s = s ∧ (hldWrite m h s r).n = 2 := by
  have e : stoAdd m s h.age h.count r = ⟨s, 2⟩ := by rw [stoAdd, if_pos ha]
  rw [hldWrite, if_pos ⟨hh, hs⟩, e, if_pos (fun hh : (2 : Int) = 1 => by cases hh)]
  exact ⟨rfl, rfl, rfl⟩
/-- One that holds the store's own age, and knows all, writes what fits. -/
theorem write_fits {m : PMap} {s : Sto} {r : Rec} {h : Hld} (hh : hldOk m h = true) (hs : stoOk m s = true) (ha : h.age = s.age) (hc : h.count = s.recs.length) (he : h.state = stoStateX m s) : (hldWrite m h s r).n = 1 ↔ (cllApplyX m h.state r).ok = true ∧ s.recs.length < 250 := by
  constructor
  · intro hn
    have h1 := write_done hn
    exact ⟨h1.2.2.2.2.2.2.2, by omega⟩
  · rintro ⟨h1, h2⟩
    rw [he, fits_iff hs] at h1
    have e : stoAdd m s h.age h.count r = ⟨⟨s.age, s.base, s.recs ++ [r]⟩, 1⟩ := by rw [stoAdd, if_neg (by omega), if_neg (by omega), if_pos h1]
    rw [hldWrite, if_pos ⟨hh, hs⟩, e, if_neg (fun hh => hh rfl), if_neg (by rw [he, stateX hs, h1.2]; decide)]

end Go.Mo
