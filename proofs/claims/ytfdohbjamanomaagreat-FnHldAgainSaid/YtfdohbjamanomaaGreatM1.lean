/-
  Plain models of the program's functions, with no program in sight: places, walkers.
-/
import Derived.Test.YtfdohbjamanomaaGreatS4e
set_option linter.unusedVariables false
set_option linter.unusedSimpArgs false
namespace Go.Mo
open Go.Sx

theorem okI {n : Int} (h : OkA (.int .i64 fun _ => n)) : -9223372036854775808 ≤ n ∧ n ≤ 9223372036854775807 := by
  cases h with
  | int _ _ h1 h2 => exact ⟨h1, h2⟩

theorem okL {t : RT} {l : List t.ty} (h : OkA (.list t fun _ => l)) (ht : t.isLong = false := by rfl) : l.length ≤ 140737488355328 := by
  cases h with
  | list _ _ h1 _ =>
    exact Nat.le_trans (Nat.le_mul_of_pos_right l.length (bytes_pos t ht)) h1.1
theorem okN {t : RT} {l : List t.ty} (h : OkA (.list t fun _ => l)) : l.length ≤ 9223372036854775807 := by
  cases h with
  | list _ _ h1 _ => exact h1.2
theorem okB {t : RT} {l : List t.ty} (h : OkA (.list t fun _ => l)) : l.length * t.bytes ≤ 140737488355328 := by
  cases h with
  | list _ _ h1 _ => exact h1.1
theorem wrap_pred {k : Nat} (h : 0 < k) (h2 : k ≤ 140737488355328) : IntKind.i64.wrap ((k : Int) - 1) = ((k - 1 : Nat) : Int) := by
  rw [wrap_id (by omega) (by omega)]; omega
theorem wrap_succ {k : Nat} (h2 : k ≤ 140737488355328) : IntKind.i64.wrap ((k : Int) + 1) = ((k + 1 : Nat) : Int) := by
  rw [wrap_id (by omega) (by omega)]; omega

/-- All up to k. -/
def allTo (k : Nat) (f : Nat → Bool) : Bool := (List.range k).all f
theorem allTo_zero (f : Nat → Bool) : allTo 0 f = true := rfl
theorem allTo_succ (k : Nat) (f : Nat → Bool) : allTo (k + 1) f = (allTo k f && f k) := by
  simp [allTo, List.range_succ]
theorem allTo_iff (k : Nat) (f : Nat → Bool) : allTo k f = true ↔ ∀ i, i < k → f i = true := by
  simp [allTo]
theorem allTo_false {k n : Nat} {f : Nat → Bool} (h : k < n) (hf : f k = false) : allTo n f = false := by
  cases ha : allTo n f with
  | false => rfl
  | true => rw [(allTo_iff n f).1 ha k h] at hf; cases hf

theorem quo_in {a b : Int} (h0 : 0 ≤ a) (h1 : a ≤ 9223372036854775807) (hb : 0 < b) : IntKind.i64.wrap (a.tdiv b) = a / b := by
  rw [Int.tdiv_eq_ediv_of_nonneg h0]
  have h2 : a / b ≤ a := Int.ediv_le_self b h0
  have h3 : 0 ≤ a / b := Int.ediv_nonneg h0 (by omega)
  exact wrap_id (by omega) (by omega)

def inR (n a b : Int) : Bool := decide (a ≤ n ∧ n ≤ b)
def plcOk (m : PMap) : Bool := decide (2 ≤ m.cells ∧ m.cells ≤ 4 ∧ 2 ≤ m.width ∧ m.width ≤ 8)
def plcCell (m : PMap) (p : Int) : Int := if plcOk m = true ∧ 0 ≤ p ∧ p < m.cells * m.width then p / m.width else -1
def plcSide (m : PMap) (c s : Int) : Int :=
  if plcOk m = true ∧ 0 ≤ c ∧ c < m.cells then (if s = 0 ∧ 0 < c then c - 1 else if s = 1 ∧ c + 1 < m.cells then c + 1 else -1) else -1
def plcEdge (m : PMap) (p s : Int) : Bool :=
  decide (plcSide m (plcCell m p) s ≠ -1 ∧ p = (if s = 0 then plcCell m p * m.width else plcCell m p * m.width + m.width - 1))

theorem plcOk_iff {m : PMap} : plcOk m = true ↔ 2 ≤ m.cells ∧ m.cells ≤ 4 ∧ 2 ≤ m.width ∧ m.width ≤ 8 := by simp [plcOk]

theorem plc_mul {m : PMap} (h : plcOk m = true) : 4 ≤ m.cells * m.width ∧ m.cells * m.width ≤ 32 := by
  rw [plcOk_iff] at h
  obtain ⟨h1, h2, h3, h4⟩ := h
  constructor
  · have := Int.mul_le_mul h1 h3 (by omega) (by omega); omega
  · have := Int.mul_le_mul h2 h4 (by omega) (by omega); omega

theorem plcSide_ne {m : PMap} {c s : Int} (h : plcSide m c s ≠ -1) : plcOk m = true ∧ 0 ≤ c ∧ c < m.cells ∧ (s = 0 ∧ 0 < c ∨ s = 1 ∧ c + 1 < m.cells) := by
  unfold plcSide at h
  split at h
  · rename_i h1
    refine ⟨h1.1, h1.2.1, h1.2.2, ?_⟩
    split at h
    · exact .inl (by assumption)
    · split at h
      · exact .inr (by assumption)
      · exact absurd rfl h
  · exact absurd rfl h
theorem plcCell_ne {m : PMap} {p : Int} (h : plcCell m p ≠ -1) : plcOk m = true ∧ 0 ≤ p ∧ p < m.cells * m.width ∧ plcCell m p = p / m.width := by
  unfold plcCell at h ⊢
  split at h
  · rename_i h1
    rw [if_pos h1]
    exact ⟨h1.1, h1.2.1, h1.2.2, rfl⟩
  · exact absurd rfl h
theorem plcCell_mul {m : PMap} {p : Int} (h : plcCell m p ≠ -1) : 0 ≤ plcCell m p * m.width ∧ plcCell m p * m.width ≤ p := by
  obtain ⟨h1, h2, h3, h4⟩ := plcCell_ne h
  rw [plcOk_iff] at h1
  rw [h4]
  have h5 : 0 ≤ p / m.width := Int.ediv_nonneg h2 (by omega)
  exact ⟨Int.mul_nonneg h5 (by omega), Int.ediv_mul_le p (by omega)⟩
theorem edge_eq {m : PMap} {p s : Int} (h : plcSide m (plcCell m p) s ≠ -1) : plcCell m (p + (2 * s - 1)) ≠ plcCell m p ↔ p = (if s = 0 then plcCell m p * m.width else plcCell m p * m.width + m.width - 1) := by
  obtain ⟨h1, h2, h3, h4⟩ := plcSide_ne h
  have h5 : plcCell m p ≠ -1 := by omega
  obtain ⟨_, h6, h7, h8⟩ := plcCell_ne h5
  rw [plcOk_iff] at h1
  obtain ⟨c, w⟩ := m
  simp only at *
  have hw : w = 2 ∨ w = 3 ∨ w = 4 ∨ w = 5 ∨ w = 6 ∨ w = 7 ∨ w = 8 := by omega
  have hok : plcOk ⟨c, w⟩ = true := by rw [plcOk_iff]; exact h1
  have hc : ∀ q, plcCell ⟨c, w⟩ q = if 0 ≤ q ∧ q < c * w then q / w else -1 := fun q => by simp [plcCell, hok]
  rw [h8] at h2 h3 h4 ⊢
  rw [hc]
  clear h hok hc h5 h8
  rcases hw with rfl | rfl | rfl | rfl | rfl | rfl | rfl <;> (rcases h4 with ⟨rfl, h4⟩ | ⟨rfl, h4⟩ <;> simp only [Int.reduceMul, Int.reduceSub, if_true, if_neg (show ¬ ((1 : Int) = 0) by decide)] <;> split <;> omega)

def wlkRanged (w : Wlk) : Bool := decide (1 ≤ w.id ∧ w.id ≤ 9 ∧ 0 ≤ w.coins ∧ w.coins ≤ 99 ∧ 0 ≤ w.seq ∧ w.seq ≤ 900 ∧ 0 ≤ w.last ∧ w.last ≤ 9)
def wlkOk (m : PMap) (w : Wlk) : Bool := decide (1 ≤ w.id ∧ w.id ≤ 9 ∧ plcCell m w.pos ≠ -1 ∧ 0 ≤ w.coins ∧ w.coins ≤ 99 ∧ 0 ≤ w.seq ∧ w.seq ≤ 900 ∧ 0 ≤ w.last ∧ w.last ≤ 9)
def wlkAt (m : PMap) (l : List Wlk) (i : Nat) : Bool := wlkOk m (nth .wlk l i) && (decide (i = 0) || decide ((nth .wlk l (i - 1)).id < (nth .wlk l i).id))
def wlkAll (m : PMap) (l : List Wlk) : Bool := allTo l.length (wlkAt m l)

theorem wlkAll_bad {m : PMap} {l : List Wlk} {k : Nat} (h : k < l.length) (hw : wlkOk m (nth .wlk l k) = false) : wlkAll m l = false := allTo_false h (by simp [wlkAt, hw])
theorem wlkAll_bad2 {m : PMap} {l : List Wlk} {k : Nat} (h : k < l.length) (h0 : 0 < k) (hw : (nth .wlk l k).id ≤ (nth .wlk l (k - 1)).id) : wlkAll m l = false := allTo_false h (by
  have : ¬ (nth .wlk l (k - 1)).id < (nth .wlk l k).id := by omega
  have h1 : ¬ k = 0 := by omega
  simp [wlkAt, this, h1])

end Go.Mo

/-
  Plain models: lists of walkers and parcels.
-/
namespace Go.Mo
open Go.Sx

/-- What is left of the first k. -/
def flt {α : Type} (p : α → Bool) (l : List α) (k : Nat) : List α := (l.take k).filter p
theorem flt_zero {α : Type} (p : α → Bool) (l : List α) : flt p l 0 = [] := by simp [flt]
theorem flt_all {α : Type} (p : α → Bool) (l : List α) : flt p l l.length = l.filter p := by simp [flt]
theorem flt_len {α : Type} (p : α → Bool) (l : List α) (k : Nat) : (flt p l k).length ≤ k := by
  unfold flt
  exact Nat.le_trans (List.length_filter_le _ _) (by simp; omega)
theorem flt_succ (t : RT) (p : t.ty → Bool) (l : List t.ty) (k : Nat) (h : k < l.length) : flt p l (k + 1) = if p (nth t l k) = true then flt p l k ++ [nth t l k] else flt p l k := by
  unfold flt
  rw [List.take_succ_eq_append_getElem h, List.filter_append, nth_lt t l k h]
  cases hp : p l[k] <;> simp [hp]

def wlkOut (l : List Wlk) (id : Int) : List Wlk := l.filter fun w => decide (w.id ≠ id)
def wlkOutTo (l : List Wlk) (id : Int) (k : Nat) : List Wlk := flt (fun w => decide (w.id ≠ id)) l k
theorem wlkOutTo_zero (l : List Wlk) (id : Int) : wlkOutTo l id 0 = [] := flt_zero _ _
theorem wlkOutTo_all {l : List Wlk} {id : Int} {k : Nat} (h : k = l.length) : wlkOutTo l id k = wlkOut l id := by subst h; exact flt_all _ _
theorem wlkOutTo_len (l : List Wlk) (id : Int) (k : Nat) : (wlkOutTo l id k).length ≤ k := flt_len _ _ _
theorem wlkOutTo_yes {l : List Wlk} {id : Int} {k : Nat} (h : k < l.length) (hn : (nth .wlk l k).id ≠ id) : wlkOutTo l id (k + 1) = wlkOutTo l id k ++ [nth .wlk l k] := by
  unfold wlkOutTo
  rw [flt_succ .wlk _ _ _ h, if_pos (by simpa using hn)]
theorem wlkOutTo_no {l : List Wlk} {id : Int} {k : Nat} (h : k < l.length) (hn : (nth .wlk l k).id = id) : wlkOutTo l id (k + 1) = wlkOutTo l id k := by
  unfold wlkOutTo
  rw [flt_succ .wlk _ _ _ h, if_neg (by simp [hn])]

/-- The first place of one that is meant, -1 for none. -/
def idx {α : Type} (p : α → Bool) (l : List α) : Int := match l.findIdx? p with
  | some i => (i : Int)
  | none => -1
theorem idx_at {α : Type} {p : α → Bool} {l : List α} {k : Nat} (h : k < l.length) (hp : p l[k] = true) (hn : ∀ j (hj : j < k), p (l[j]'(by omega)) = false) : idx p l = k := by
  have : l.findIdx? p = some k := by
    rw [List.findIdx?_eq_some_iff_getElem]
    exact ⟨h, hp, fun j hj => by simp [hn j hj]⟩
  simp [idx, this]
theorem idx_none {α : Type} {p : α → Bool} {l : List α} (hn : ∀ j (hj : j < l.length), p l[j] = false) : idx p l = -1 := by
  have : l.findIdx? p = none := by
    rw [List.findIdx?_eq_none_iff]
    intro x hx
    obtain ⟨j, hj, rfl⟩ := List.getElem_of_mem hx
    exact hn j hj
  simp [idx, this]
theorem idx_cases {α : Type} (p : α → Bool) (l : List α) : idx p l = -1 ∧ (∀ x ∈ l, p x = false) ∨ ∃ k, ∃ h : k < l.length, idx p l = (k : Int) ∧ p l[k] = true ∧ ∀ j (hj : j < k), p (l[j]'(by omega)) = false := by
  unfold idx
  cases hf : l.findIdx? p with
  | none =>
    rw [List.findIdx?_eq_none_iff] at hf
    exact .inl ⟨rfl, fun x hx => by simpa using hf x hx⟩
  | some k =>
    rw [List.findIdx?_eq_some_iff_getElem] at hf
    obtain ⟨h, h1, h2⟩ := hf
    exact .inr ⟨k, h, rfl, h1, fun j hj => by simpa using h2 j hj⟩

def isId (id : Int) (w : Wlk) : Bool := decide (w.id = id)
def wlkPlace (l : List Wlk) (id : Int) : Int := idx (isId id) l
def nid (l : List Wlk) (id : Int) (j : Nat) : Bool := !isId id (nth .wlk l j)
theorem place_at {l : List Wlk} {id : Int} {k : Nat} (h : allTo k (nid l id) = true) (hk : k < l.length) (hi : (nth .wlk l k).id = id) : wlkPlace l id = k := by
  rw [nth_lt .wlk l k hk] at hi
  refine idx_at hk (by simp [isId, hi]) fun j hj => ?_
  have := (allTo_iff k _).1 h j hj
  simp only [nid, Bool.not_eq_true'] at this
  rw [nth_lt .wlk l j (by omega)] at this
  exact this
theorem place_none {l : List Wlk} {id : Int} {k : Nat} (h : allTo k (nid l id) = true) (hk : k = l.length) : wlkPlace l id = -1 := by
  subst hk
  refine idx_none fun j hj => ?_
  have := (allTo_iff _ _).1 h j hj
  simp only [nid, Bool.not_eq_true'] at this
  rw [nth_lt .wlk l j hj] at this
  exact this
theorem place_lt (l : List Wlk) (id : Int) : -1 ≤ wlkPlace l id ∧ wlkPlace l id < l.length := by
  rcases idx_cases (isId id) l with ⟨h, _⟩ | ⟨k, hk, h, _⟩
  · unfold wlkPlace; rw [h]; omega
  · unfold wlkPlace; rw [h]; omega
theorem place_id {l : List Wlk} {id : Int} (h : 0 ≤ wlkPlace l id) : (nth .wlk l (wlkPlace l id).toNat).id = id := by
  rcases idx_cases (isId id) l with ⟨h', _⟩ | ⟨k, hk, h', h2, _⟩
  · unfold wlkPlace at h; omega
  · unfold wlkPlace; rw [h']
    rw [Int.toNat_natCast, nth_lt .wlk l k hk]
    simpa [isId] using h2

/-- The walker that is found, or none. -/
def wlkFind (l : List Wlk) (id : Int) : Wlk := if 0 ≤ wlkPlace l id then nth .wlk l (wlkPlace l id).toNat else ⟨0, 0, 0, 0, 0⟩
def wlkHas (l : List Wlk) (id : Int) : Bool := decide (0 ≤ wlkPlace l id)

end Go.Mo

/-
  Plain models: orders, parcels.
-/
namespace Go.Mo
open Go.Sx

def ordOk (o : Ord) : Bool := decide (1 ≤ o.who ∧ o.who ≤ 9 ∧ 1 ≤ o.seq ∧ o.seq ≤ 900 ∧
  ((o.kind = 1 ∧ 0 ≤ o.dest ∧ o.dest ≤ 1 ∧ o.n = 0) ∨ (o.kind = 2 ∧ 1 ≤ o.dest ∧ o.dest ≤ 9 ∧ o.dest ≠ o.who ∧ 1 ≤ o.n ∧ o.n ≤ 9) ∨ ((o.kind = 3 ∨ o.kind = 4) ∧ o.dest = 0 ∧ 1 ≤ o.n ∧ o.n ≤ 9) ∨
   (o.kind = 5 ∧ 0 ≤ o.dest ∧ o.dest ≤ 1 ∧ 1 ≤ o.n ∧ o.n ≤ 9) ∨ (o.kind = 6 ∧ o.dest = 0 ∧ o.n = 0)))
def zeroW (w : Wlk) : Bool := decide (w.id = 0 ∧ w.pos = 0 ∧ w.coins = 0 ∧ w.seq = 0 ∧ w.last = 0)
def pclFormed (p : Pcl) : Bool := decide (0 ≤ p.n ∧ p.n ≤ 4999 ∧ (p.kind = 1 ∧ p.coins = 0 ∨ p.kind = 2 ∧ zeroW p.wlk = true ∧ 1 ≤ p.coins ∧ p.coins ≤ 9))
def pclOk (m : PMap) (p : Pcl) : Bool := decide (plcOk m = true ∧ 0 ≤ p.n ∧ p.n ≤ 4999 ∧ (p.kind = 1 ∧ wlkOk m p.wlk = true ∧ p.coins = 0 ∨ p.kind = 2 ∧ zeroW p.wlk = true ∧ 1 ≤ p.coins ∧ p.coins ≤ 9))

def pclAt (m : PMap) (l : List Pcl) (next : Int) (i : Nat) : Bool := pclOk m (nth .pcl l i) && decide ((nth .pcl l i).n = next - l.length + i)
def pclListOk (m : PMap) (l : List Pcl) (next : Int) : Bool := decide (plcOk m = true ∧ 0 ≤ next ∧ next ≤ 5000 ∧ (l.length : Int) ≤ next) && allTo l.length (pclAt m l next)
theorem pclListOk_bad {m : PMap} {l : List Pcl} {next : Int} {k : Nat} (h : k < l.length) (hw : pclOk m (nth .pcl l k) = false) : pclListOk m l next = false := by
  have := allTo_false (f := pclAt m l next) h (by simp [pclAt, hw])
  simp [pclListOk, this]
theorem pclListOk_bad2 {m : PMap} {l : List Pcl} {next : Int} {k : Nat} (h : k < l.length) (hw : ¬ (nth .pcl l k).n = next - l.length + k) : pclListOk m l next = false := by
  have := allTo_false (f := pclAt m l next) h (by simp [pclAt, hw])
  simp [pclListOk, this]

def pclFrom (l : List Pcl) (n : Int) : List Pcl := l.filter fun p => decide (n ≤ p.n)
def pclFromTo (l : List Pcl) (n : Int) (k : Nat) : List Pcl := flt (fun p => decide (n ≤ p.n)) l k
theorem pclFromTo_zero (l : List Pcl) (n : Int) : pclFromTo l n 0 = [] := flt_zero _ _
theorem pclFromTo_all {l : List Pcl} {n : Int} {k : Nat} (h : k = l.length) : pclFromTo l n k = pclFrom l n := by subst h; exact flt_all _ _
theorem pclFromTo_len (l : List Pcl) (n : Int) (k : Nat) : (pclFromTo l n k).length ≤ k := flt_len _ _ _
theorem pclFromTo_yes {l : List Pcl} {n : Int} {k : Nat} (h : k < l.length) (hn : n ≤ (nth .pcl l k).n) : pclFromTo l n (k + 1) = pclFromTo l n k ++ [nth .pcl l k] := by
  unfold pclFromTo
  rw [flt_succ .pcl _ _ _ h, if_pos (by simpa using hn)]
theorem pclFromTo_no {l : List Pcl} {n : Int} {k : Nat} (h : k < l.length) (hn : (nth .pcl l k).n < n) : pclFromTo l n (k + 1) = pclFromTo l n k := by
  unfold pclFromTo
  rw [flt_succ .pcl _ _ _ h, if_neg (by simpa using hn)]

end Go.Mo

/-
  Plain models: cells.
-/
namespace Go.Mo
open Go.Sx

/-- What memory says of a cell. -/
structure CllB (c : Cll) : Prop where
  w : c.wlks.length * 40 ≤ 140737488355328
  o : c.outs.length * 24 ≤ 140737488355328
  oi : ∀ i, i < c.outs.length → (nth .pcls c.outs i).length * 64 ≤ 140737488355328
  n : c.next.length * 8 ≤ 140737488355328
  i : c.ins.length * 8 ≤ 140737488355328
  cell : -9223372036854775808 ≤ c.cell ∧ c.cell ≤ 9223372036854775807
  ground : -9223372036854775808 ≤ c.ground ∧ c.ground ≤ 9223372036854775807

theorem okCll {c : Cll} (h : ∀ a ∈ (PT.row .cll).encA (fun _ => c), OkA a) : CllB c := by
  have h1 := okI (h _ (.head _))
  have h2 := okB (h _ (.tail _ (.head _)))
  have h3 := okI (h _ (.tail _ (.tail _ (.head _))))
  have h4 := h _ (.tail _ (.tail _ (.tail _ (.head _))))
  have h5 := okB (h _ (.tail _ (.tail _ (.tail _ (.tail _ (.head _))))))
  have h6 := okB (h _ (.tail _ (.tail _ (.tail _ (.tail _ (.tail _ (.head _)))))))
  refine ⟨h2, okB h4, fun i hi => ?_, h5, h6, h1, h3⟩
  cases h4 with
  | list _ _ _ g =>
    have := g i 0 _ hi rfl
    exact okB this

theorem take_snoc (t : RT) (l : List t.ty) (k : Nat) (h : k < l.length) : l.take (k + 1) = l.take k ++ [nth t l k] := by
  rw [List.take_succ_eq_append_getElem h, nth_lt t l k h]
def pre {α : Type} (l : List α) (k : Nat) : List α := l.take k
theorem pre_zero {α : Type} (l : List α) : pre l 0 = [] := by simp [pre]
theorem pre_all {α : Type} {l : List α} {k : Nat} (h : k = l.length) : pre l k = l := by subst h; simp [pre]
theorem pre_succ (t : RT) {l : List t.ty} {k : Nat} (h : k < l.length) : pre l (k + 1) = pre l k ++ [nth t l k] := take_snoc t l k h
theorem pre_len {α : Type} (l : List α) (k : Nat) : (pre l k).length ≤ k := by simp [pre]; omega

def pclDest (m : PMap) (there : Int) (l : List Pcl) (i : Nat) : Bool := decide ((nth .pcl l i).kind = 1 → plcCell m (nth .pcl l i).wlk.pos = there)
def sideHead (m : PMap) (c : Cll) (s : Nat) : Bool := decide (pclListOk m (nth .pcls c.outs s) (nth .int c.next s) = true ∧ 0 ≤ nth .int c.ins s ∧ nth .int c.ins s ≤ 5000 ∧ (plcSide m c.cell s = -1 → nth .int c.next s = 0 ∧ nth .int c.ins s = 0))
def cllSide (m : PMap) (c : Cll) (s : Nat) : Bool := sideHead m c s && allTo (nth .pcls c.outs s).length (pclDest m (plcSide m c.cell s) (nth .pcls c.outs s))
def wlkIn (m : PMap) (c : Cll) (i : Nat) : Bool := decide (plcCell m (nth .wlk c.wlks i).pos = c.cell)
def cllHead (m : PMap) (c : Cll) : Bool := decide (wlkAll m c.wlks = true ∧ plcOk m = true ∧ 0 ≤ c.cell ∧ c.cell < m.cells ∧ 0 ≤ c.ground ∧ c.ground ≤ 900 ∧ c.outs.length = 2 ∧ c.next.length = 2 ∧ c.ins.length = 2)
def cllOk (m : PMap) (c : Cll) : Bool := cllHead m c && allTo c.wlks.length (wlkIn m c) && allTo 2 (cllSide m c)

theorem cllOk_bad1 {m : PMap} {c : Cll} {k : Nat} (h : k < c.wlks.length) (hw : ¬ plcCell m (nth .wlk c.wlks k).pos = c.cell) : cllOk m c = false := by
  have := allTo_false (f := wlkIn m c) h (by simp [wlkIn, hw])
  simp [cllOk, this]
theorem cllOk_bad2 {m : PMap} {c : Cll} {k : Nat} (h : k < 2) (hw : cllSide m c k = false) : cllOk m c = false := by
  have := allTo_false (f := cllSide m c) h hw
  simp [cllOk, this]
theorem cllSide_bad {m : PMap} {c : Cll} {s k : Nat} (h : k < (nth .pcls c.outs s).length) (h1 : (nth .pcl (nth .pcls c.outs s) k).kind = 1) (hw : ¬ plcCell m (nth .pcl (nth .pcls c.outs s) k).wlk.pos = plcSide m c.cell s) : cllSide m c s = false := by
  have := allTo_false (f := pclDest m (plcSide m c.cell s) (nth .pcls c.outs s)) h (by simp [pclDest, h1, hw])
  simp [cllSide, this]
theorem pclListOk_len {m : PMap} {l : List Pcl} {n : Int} (h : pclListOk m l n = true) : (l.length : Int) ≤ n := by
  simp [pclListOk] at h
  omega
theorem cllSide_empty {m : PMap} {c : Cll} {s : Nat} (h : sideHead m c s = true) (hn : plcSide m c.cell s = -1) : cllSide m c s = true := by
  have h' := h
  simp only [sideHead, decide_eq_true_eq] at h'
  obtain ⟨h1, _, _, h4⟩ := h'
  have h5 := pclListOk_len h1
  have h6 : @Eq Int (nth .int c.next s) 0 := (h4 hn).1
  rw [h6] at h5
  have : (nth .pcls c.outs s).length = 0 := by omega
  simp [cllSide, h, this, allTo_zero]

def sideInv (m : PMap) (c : Cll) (s k : Nat) : Prop := s < 2 ∧ cllHead m c = true ∧ allTo c.wlks.length (wlkIn m c) = true ∧ allTo s (cllSide m c) = true ∧ sideHead m c s = true ∧ k ≤ (nth .pcls c.outs s).length ∧ allTo k (pclDest m (plcSide m c.cell s) (nth .pcls c.outs s)) = true

end Go.Mo

/-
  Plain models: what is done in a cell.
-/
namespace Go.Mo
open Go.Sx

theorem cllOk_head {m : PMap} {c : Cll} (h : cllOk m c = true) : cllHead m c = true ∧ allTo c.wlks.length (wlkIn m c) = true ∧ allTo 2 (cllSide m c) = true := by
  simpa [cllOk, and_assoc] using h
theorem cllOk_facts {m : PMap} {c : Cll} (h : cllOk m c = true) : wlkAll m c.wlks = true ∧ plcOk m = true ∧ 0 ≤ c.cell ∧ c.cell < m.cells ∧ 0 ≤ c.ground ∧ c.ground ≤ 900 ∧ c.outs.length = 2 ∧ c.next.length = 2 ∧ c.ins.length = 2 := by
  have := (cllOk_head h).1
  simpa [cllHead] using this
theorem wlkOk_iff {m : PMap} {w : Wlk} : wlkOk m w = true ↔ (1 ≤ w.id ∧ w.id ≤ 9 ∧ plcCell m w.pos ≠ -1 ∧ 0 ≤ w.coins ∧ w.coins ≤ 99 ∧ 0 ≤ w.seq ∧ w.seq ≤ 900 ∧ 0 ≤ w.last ∧ w.last ≤ 9) := by simp [wlkOk]
theorem wlkAll_at {m : PMap} {l : List Wlk} (h : wlkAll m l = true) {i : Nat} (hi : i < l.length) : wlkOk m (nth .wlk l i) = true := by
  have := (allTo_iff _ _).1 h i hi
  simp [wlkAt] at this
  exact this.1
theorem plcCell_pos {m : PMap} {p : Int} (h : plcCell m p ≠ -1) : 0 ≤ p ∧ p < 32 := by
  obtain ⟨h1, h2, h3, _⟩ := plcCell_ne h
  have := (plc_mul h1).2
  omega
theorem cllOk_wlk {m : PMap} {c : Cll} (h : cllOk m c = true) {i : Nat} (hi : i < c.wlks.length) :
    (1 ≤ (nth .wlk c.wlks i).id ∧ (nth .wlk c.wlks i).id ≤ 9) ∧ (0 ≤ (nth .wlk c.wlks i).pos ∧ (nth .wlk c.wlks i).pos < 32) ∧ (0 ≤ (nth .wlk c.wlks i).coins ∧ (nth .wlk c.wlks i).coins ≤ 99) ∧
      (0 ≤ (nth .wlk c.wlks i).seq ∧ (nth .wlk c.wlks i).seq ≤ 900) ∧ (0 ≤ (nth .wlk c.wlks i).last ∧ (nth .wlk c.wlks i).last ≤ 9) ∧ plcCell m (nth .wlk c.wlks i).pos = c.cell := by
  obtain ⟨h1, h2, _⟩ := cllOk_head h
  have h3 := wlkOk_iff.1 (wlkAll_at (cllOk_facts h).1 hi)
  have h4 := (allTo_iff _ _).1 h2 i hi
  simp [wlkIn] at h4
  have h5 := plcCell_pos h3.2.2.1
  exact ⟨⟨h3.1, h3.2.1⟩, h5, ⟨h3.2.2.2.1, h3.2.2.2.2.1⟩, ⟨h3.2.2.2.2.2.1, h3.2.2.2.2.2.2.1⟩, h3.2.2.2.2.2.2.2, h4⟩
theorem cllOk_side {m : PMap} {c : Cll} (h : cllOk m c = true) {s : Nat} (hs : s < 2) :
    (0 ≤ nth .int c.next s ∧ nth .int c.next s ≤ 5000) ∧ (0 ≤ nth .int c.ins s ∧ nth .int c.ins s ≤ 5000) ∧ ((nth .pcls c.outs s).length : Int) ≤ nth .int c.next s ∧ pclListOk m (nth .pcls c.outs s) (nth .int c.next s) = true := by
  obtain ⟨_, _, h3⟩ := cllOk_head h
  have h4 := (allTo_iff _ _).1 h3 s hs
  simp only [cllSide, sideHead, Bool.and_eq_true, decide_eq_true_eq] at h4
  have h5 := h4.1.1
  simp only [pclListOk, Bool.and_eq_true, decide_eq_true_eq] at h5
  exact ⟨⟨h5.1.2.1, h5.1.2.2.1⟩, ⟨h4.1.2.1, h4.1.2.2.1⟩, h5.1.2.2.2, h4.1.1⟩
theorem ordOk_iff {o : Ord} : ordOk o = true ↔ (1 ≤ o.who ∧ o.who ≤ 9 ∧ 1 ≤ o.seq ∧ o.seq ≤ 900 ∧
  ((o.kind = 1 ∧ 0 ≤ o.dest ∧ o.dest ≤ 1 ∧ o.n = 0) ∨ (o.kind = 2 ∧ 1 ≤ o.dest ∧ o.dest ≤ 9 ∧ o.dest ≠ o.who ∧ 1 ≤ o.n ∧ o.n ≤ 9) ∨ ((o.kind = 3 ∨ o.kind = 4) ∧ o.dest = 0 ∧ 1 ≤ o.n ∧ o.n ≤ 9) ∨
   (o.kind = 5 ∧ 0 ≤ o.dest ∧ o.dest ≤ 1 ∧ 1 ≤ o.n ∧ o.n ≤ 9) ∨ (o.kind = 6 ∧ o.dest = 0 ∧ o.n = 0))) := by simp [ordOk]

theorem nth_set_eq (t : RT) {l : List t.ty} {i : Nat} {x : t.ty} (h : i < l.length) : nth t (l.set i x) i = x := by
  simp [nth, List.getD, h]
theorem nth_set_ne (t : RT) {l : List t.ty} {i j : Nat} {x : t.ty} (h : i ≠ j) : nth t (l.set i x) j = nth t l j := by
  simp [nth, List.getD, List.getElem?_set_ne h]

theorem setNth_app (t : RT) (l : Th (List t.ty)) (i : Th Int) (e : Th t.ty) (u : Unit) : setNth t l i e u = (l ()).set (i ()).toNat (e ()) := rfl
theorem place_ge {l : List Wlk} {id : Int} (h : ¬ wlkPlace l id < 0) : (wlkPlace l id).toNat < l.length := by
  have := place_lt l id
  omega
theorem place_ne {l : List Wlk} {a b : Int} (ha : ¬ wlkPlace l a < 0) (hb : ¬ wlkPlace l b < 0) (h : b ≠ a) : (wlkPlace l a).toNat ≠ (wlkPlace l b).toNat := by
  intro he
  have h1 := place_id (l := l) (id := a) (by omega)
  have h2 := place_id (l := l) (id := b) (by omega)
  rw [he, h2] at h1
  exact h h1
theorem ord_give {o : Ord} (h : ordOk o = true) (h2 : o.kind = 2) : o.dest ≠ o.who := by
  rw [ordOk_iff] at h
  omega
theorem step_wrap {m : PMap} {c : Cll} {o : Ord} {i : Nat} (h : cllOk m c = true) (hi : i < c.wlks.length) (ho : ordOk o = true) (hk : o.kind = 1) : IntKind.i64.wrap ((nth .wlk c.wlks i).pos + (2 * o.dest - 1)) = (nth .wlk c.wlks i).pos + (2 * o.dest - 1) := by
  have h1 := cllOk_wlk h hi
  rw [ordOk_iff] at ho
  exact wrap_id (by omega) (by omega)
theorem set_swap {α : Type} {l : List α} {i j : Nat} {a b c : α} (h : i ≠ j) : ((l.set i a).set j b).set i c = (l.set j b).set i c := by
  rw [List.set_comm _ _ h, List.set_set]
/-- The walker of a number, with something said of it. -/
def wlkSet (l : List Wlk) (i : Nat) (w : Wlk) : List Wlk := l.set i w
theorem wlkSet_len (l : List Wlk) (i : Nat) (w : Wlk) : (wlkSet l i w).length = l.length := by simp [wlkSet]
theorem idx_congr {α : Type} {p : α → Bool} : ∀ {l k : List α}, l.map p = k.map p → idx p l = idx p k := by
  intro l k h
  have h2 : ∀ (l : List α), l.findIdx? p = (l.map p).findIdx? id := by
    intro l
    induction l with
    | nil => rfl
    | cons x r ih => simp only [List.map_cons, List.findIdx?_cons, id, ih]
  unfold idx
  rw [h2 l, h2 k, h]
theorem map_set_same {α β : Type} (f : α → β) {l : List α} {i : Nat} {x : α} (h : ∀ y, l[i]? = some y → f x = f y) : (l.set i x).map f = l.map f := by
  apply List.ext_getElem?
  intro j
  by_cases hj : i = j
  · subst hj
    simp only [List.getElem?_map, List.getElem?_set_self']
    cases hy : l[i]? with
    | none => simp
    | some y => simp [h y hy]
  · simp [List.getElem?_set_ne hj]
theorem place_set {l : List Wlk} {i : Nat} {w : Wlk} {id : Int} (h : w.id = (nth .wlk l i).id) : wlkPlace (l.set i w) id = wlkPlace l id := by
  unfold wlkPlace
  refine idx_congr (map_set_same _ fun y hy => ?_)
  have : nth .wlk l i = y := by simp [nth, List.getD, hy]
  rw [this] at h
  simp [isId, h]

structure CD where
  c : Cll
  code : Int

def cllFin (c : Cll) (i : Nat) (w : Wlk) (g : Int) (code : Int) : CD := ⟨⟨c.cell, c.wlks.set i ⟨w.id, w.pos, w.coins, w.seq, code⟩, g, c.outs, c.next, c.ins⟩, code⟩
def sendOuts (c : Cll) (s : Nat) (p : Pcl) : List (List Pcl) := c.outs.set s (nth .pcls c.outs s ++ [⟨nth .int c.next s, p.kind, p.wlk, p.coins⟩])
def sendNext (c : Cll) (s : Nat) : List Int := c.next.set s (nth .int c.next s + 1)
def doStep (m : PMap) (c : Cll) (i : Nat) (w : Wlk) (o : Ord) : CD :=
  if plcCell m (w.pos + (2 * o.dest - 1)) = -1 then cllFin c i w c.ground 2
  else if plcCell m (w.pos + (2 * o.dest - 1)) = c.cell then cllFin c i ⟨w.id, w.pos + (2 * o.dest - 1), w.coins, w.seq, w.last⟩ c.ground 1
  else if nth .int c.next o.dest.toNat = 5000 then cllFin c i w c.ground 2
  else ⟨⟨c.cell, wlkOut (c.wlks.set i w) o.who, c.ground, sendOuts c o.dest.toNat ⟨0, 1, ⟨w.id, w.pos + (2 * o.dest - 1), w.coins, w.seq, 1⟩, 0⟩, sendNext c o.dest.toNat, c.ins⟩, 1⟩
def doGive (c : Cll) (i : Nat) (w : Wlk) (o : Ord) : CD :=
  if wlkPlace c.wlks o.dest < 0 then cllFin c i w c.ground 4
  else if w.coins < o.n then cllFin c i w c.ground 3
  else if 99 < (nth .wlk c.wlks (wlkPlace c.wlks o.dest).toNat).coins + o.n then cllFin c i w c.ground 5
  else
    let v := nth .wlk c.wlks (wlkPlace c.wlks o.dest).toNat
    ⟨⟨c.cell, (c.wlks.set (wlkPlace c.wlks o.dest).toNat ⟨v.id, v.pos, v.coins + o.n, v.seq, v.last⟩).set i ⟨w.id, w.pos, w.coins - o.n, w.seq, 1⟩, c.ground, c.outs, c.next, c.ins⟩, 1⟩
def doDrop (c : Cll) (i : Nat) (w : Wlk) (o : Ord) : CD :=
  if w.coins < o.n then cllFin c i w c.ground 3 else if 900 < c.ground + o.n then cllFin c i w c.ground 5 else cllFin c i ⟨w.id, w.pos, w.coins - o.n, w.seq, w.last⟩ (c.ground + o.n) 1
def doPick (c : Cll) (i : Nat) (w : Wlk) (o : Ord) : CD :=
  if c.ground < o.n then cllFin c i w c.ground 6 else if 99 < w.coins + o.n then cllFin c i w c.ground 5 else cllFin c i ⟨w.id, w.pos, w.coins + o.n, w.seq, w.last⟩ (c.ground - o.n) 1
def doThrow (m : PMap) (c : Cll) (i : Nat) (w : Wlk) (o : Ord) : CD :=
  if plcEdge m w.pos o.dest = false then cllFin c i w c.ground 7
  else if w.coins < o.n then cllFin c i w c.ground 3
  else if nth .int c.next o.dest.toNat = 5000 then cllFin c i w c.ground 5
  else ⟨⟨c.cell, c.wlks.set i ⟨w.id, w.pos, w.coins - o.n, w.seq, 1⟩, c.ground, sendOuts c o.dest.toNat ⟨0, 2, ⟨0, 0, 0, 0, 0⟩, o.n⟩, sendNext c o.dest.toNat, c.ins⟩, 1⟩
def doKind (m : PMap) (c : Cll) (i : Nat) (w : Wlk) (o : Ord) : CD :=
  if o.kind = 1 then doStep m c i w o
  else if o.kind = 2 then doGive c i w o
  else if o.kind = 3 then doDrop c i w o
  else if o.kind = 4 then doPick c i w o
  else if o.kind = 5 then doThrow m c i w o
  else cllFin c i w c.ground 1
/-- What an order does in a cell that is ok. -/
def cllDo (m : PMap) (c : Cll) (o : Ord) : CD :=
  if wlkPlace c.wlks o.who < 0 then ⟨c, 9⟩
  else
    let w := nth .wlk c.wlks (wlkPlace c.wlks o.who).toNat
    if o.seq < w.seq then ⟨c, 8⟩
    else if o.seq = w.seq then ⟨c, w.last⟩
    else doKind m c (wlkPlace c.wlks o.who).toNat ⟨w.id, w.pos, w.coins, o.seq, w.last⟩ o
def zeroC : Cll := ⟨0, [], 0, [], [], []⟩
def cllDoX (m : PMap) (c : Cll) (o : Ord) : CD := if cllOk m c = true ∧ ordOk o = true then cllDo m c o else ⟨zeroC, 0⟩

end Go.Mo
