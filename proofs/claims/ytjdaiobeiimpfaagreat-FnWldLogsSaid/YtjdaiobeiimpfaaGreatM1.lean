/-
  Plain models of the program's functions, with no program in sight: places, walkers.
-/
import Derived.Test.YtjdaiobeiimpfaaGreatS4e
import Derived.Test.YtjdaiobeiimpfaaGreatS5
set_option linter.unusedVariables false
set_option linter.unusedSimpArgs false
namespace Go.Mo
open Go.Sx
theorem okI {n : Int} (h : OkA (.int .i64 fun _ => n)) : -9223372036854775808 ≤ n ∧ n ≤ 9223372036854775807 := by
 cases h with
 | int _ _ h1 h2 => exact ⟨h1, h2⟩
theorem okL {t : RT} {l : List t.ty} (h : OkA (.list t fun _ => l)) (ht : t.isLong = false := by rfl) : l.length ≤ 140737488355328 := by
 cases h with
 | list _ _ h1 _ =>
  exact Nat.le_trans (Nat.le_mul_of_pos_right l.length (bytes_pos t ht)) h1.1
theorem okB {t : RT} {l : List t.ty} (h : OkA (.list t fun _ => l)) : l.length * t.bytes ≤ 140737488355328 := by
 cases h with
 | list _ _ h1 _ => exact h1.1
theorem wrap_pred {k : Nat} (h : 0 < k) (h2 : k ≤ 140737488355328) : IntKind.i64.wrap ((k : Int) - 1) = ((k - 1 : Nat) : Int) := by
 rw [wrap_id (by omega) (by omega)]; omega
theorem wrap_succ {k : Nat} (h2 : k ≤ 140737488355328) : IntKind.i64.wrap ((k : Int) + 1) = ((k + 1 : Nat) : Int) := by
 rw [wrap_id (by omega) (by omega)]; omega
def allTo (k : Nat) (f : Nat → Bool) : Bool := (List.range k).all f
theorem allTo_zero (f : Nat → Bool) : allTo 0 f = true := rfl
theorem allTo_succ (k : Nat) (f : Nat → Bool) : allTo (k + 1) f = (allTo k f && f k) := by
 simp [allTo, List.range_succ]
theorem allTo_iff (k : Nat) (f : Nat → Bool) : allTo k f = true ↔ ∀ i, i < k → f i = true := by
 simp [allTo]
theorem allTo_false {k n : Nat} {f : Nat → Bool} (h : k < n) (hf : f k = false) : allTo n f = false := by
 cases ha : allTo n f with
 | false => rfl
 | true => rw [(allTo_iff n f).1 ha k h] at hf; cases hf
theorem quo_in {a b : Int} (h0 : 0 ≤ a) (h1 : a ≤ 9223372036854775807) (hb : 0 < b) : IntKind.i64.wrap (a.tdiv b) = a / b := by
 rw [Int.tdiv_eq_ediv_of_nonneg h0]
 have h2 : a / b ≤ a := Int.ediv_le_self b h0
 have h3 : 0 ≤ a / b := Int.ediv_nonneg h0 (by omega)
 exact wrap_id (by omega) (by omega)
def inR (n a b : Int) : Bool := decide (a ≤ n ∧ n ≤ b)
def plcOk (m : PMap) : Bool := decide (2 ≤ m.cells ∧ m.cells ≤ 4 ∧ 2 ≤ m.width ∧ m.width ≤ 8)
def plcCell (m : PMap) (p : Int) : Int := if plcOk m = true ∧ 0 ≤ p ∧ p < m.cells * m.width then p / m.width else -1
def plcSide (m : PMap) (c s : Int) : Int :=
 if plcOk m = true ∧ 0 ≤ c ∧ c < m.cells then (if s = 0 ∧ 0 < c then c - 1 else if s = 1 ∧ c + 1 < m.cells then c + 1 else -1) else -1
def plcEdge (m : PMap) (p s : Int) : Bool :=
 decide (plcSide m (plcCell m p) s ≠ -1 ∧ p = (if s = 0 then plcCell m p * m.width else plcCell m p * m.width + m.width - 1))
theorem plcOk_iff {m : PMap} : plcOk m = true ↔ 2 ≤ m.cells ∧ m.cells ≤ 4 ∧ 2 ≤ m.width ∧ m.width ≤ 8 := by simp [plcOk]
theorem plc_mul {m : PMap} (h : plcOk m = true) : 4 ≤ m.cells * m.width ∧ m.cells * m.width ≤ 32 := by
 rw [plcOk_iff] at h
 obtain ⟨h1, h2, h3, h4⟩ := h
 constructor
 ·have := Int.mul_le_mul h1 h3 (by omega) (by omega); omega
 ·have := Int.mul_le_mul h2 h4 (by omega) (by omega); omega
theorem plcSide_ne {m : PMap} {c s : Int} (h : plcSide m c s ≠ -1) : plcOk m = true ∧ 0 ≤ c ∧ c < m.cells ∧ (s = 0 ∧ 0 < c ∨ s = 1 ∧ c + 1 < m.cells) := by
 unfold plcSide at h
 split at h
 ·rename_i h1
  refine ⟨h1.1, h1.2.1, h1.2.2, ?_⟩
  split at h
  ·exact .inl (by assumption)
  ·split at h
   ·exact .inr (by assumption)
   ·exact absurd rfl h
 ·exact absurd rfl h
theorem plcCell_ne {m : PMap} {p : Int} (h : plcCell m p ≠ -1) : plcOk m = true ∧ 0 ≤ p ∧ p < m.cells * m.width ∧ plcCell m p = p / m.width := by
 unfold plcCell at h ⊢
 split at h
 ·rename_i h1
  rw [if_pos h1]
  exact ⟨h1.1, h1.2.1, h1.2.2, rfl⟩
 ·exact absurd rfl h
theorem plcCell_mul {m : PMap} {p : Int} (h : plcCell m p ≠ -1) : 0 ≤ plcCell m p * m.width ∧ plcCell m p * m.width ≤ p := by
 obtain ⟨h1, h2, h3, h4⟩ := plcCell_ne h
 rw [plcOk_iff] at h1
 rw [h4]
 have h5 : 0 ≤ p / m.width := Int.ediv_nonneg h2 (by omega)
 exact ⟨Int.mul_nonneg h5 (by omega), Int.ediv_mul_le p (by omega)⟩
theorem edge_eq {m : PMap} {p s : Int} (h : plcSide m (plcCell m p) s ≠ -1) : plcCell m (p + (2 * s - 1)) ≠ plcCell m p ↔ p = (if s = 0 then plcCell m p * m.width else plcCell m p * m.width + m.width - 1) := by
 obtain ⟨h1, h2, h3, h4⟩ := plcSide_ne h
 have h5 : plcCell m p ≠ -1 := by omega
 obtain ⟨_, h6, h7, h8⟩ := plcCell_ne h5
 rw [plcOk_iff] at h1
 obtain ⟨c, w⟩ := m
 simp only at *
 have hw : w = 2 ∨ w = 3 ∨ w = 4 ∨ w = 5 ∨ w = 6 ∨ w = 7 ∨ w = 8 := by omega
 have hok : plcOk ⟨c, w⟩ = true := by rw [plcOk_iff]; exact h1
 have hc : ∀ q, plcCell ⟨c, w⟩ q = if 0 ≤ q ∧ q < c * w then q / w else -1 := fun q => by simp [plcCell, hok]
 rw [h8] at h2 h3 h4 ⊢
 rw [hc]
 clear h hok hc h5 h8
 rcases hw with rfl | rfl | rfl | rfl | rfl | rfl | rfl <;> (rcases h4 with ⟨rfl, h4⟩ | ⟨rfl, h4⟩ <;> simp only [Int.reduceMul, Int.reduceSub, if_true, if_neg (show ¬ ((1 : Int) = 0) by decide)] <;> split <;> omega)
def wlkRanged (w : Wlk) : Bool := decide (1 ≤ w.id ∧ w.id ≤ 9 ∧ 0 ≤ w.coins ∧ w.coins ≤ 99 ∧ 0 ≤ w.seq ∧ w.seq ≤ 900 ∧ 0 ≤ w.last ∧ w.last ≤ 9)
def wlkOk (m : PMap) (w : Wlk) : Bool := decide (1 ≤ w.id ∧ w.id ≤ 9 ∧ plcCell m w.pos ≠ -1 ∧ 0 ≤ w.coins ∧ w.coins ≤ 99 ∧ 0 ≤ w.seq ∧ w.seq ≤ 900 ∧ 0 ≤ w.last ∧ w.last ≤ 9)
def wlkAt (m : PMap) (l : List Wlk) (i : Nat) : Bool := wlkOk m (nth .wlk l i) && (decide (i = 0) || decide ((nth .wlk l (i - 1)).id < (nth .wlk l i).id))
def wlkAll (m : PMap) (l : List Wlk) : Bool := allTo l.length (wlkAt m l)
theorem wlkAll_bad {m : PMap} {l : List Wlk} {k : Nat} (h : k < l.length) (hw : wlkOk m (nth .wlk l k) = false) : wlkAll m l = false := allTo_false h (by simp [wlkAt, hw])
theorem wlkAll_bad2 {m : PMap} {l : List Wlk} {k : Nat} (h : k < l.length) (h0 : 0 < k) (hw : (nth .wlk l k).id ≤ (nth .wlk l (k - 1)).id) : wlkAll m l = false := allTo_false h (by
 have : ¬ (nth .wlk l (k - 1)).id < (nth .wlk l k).id := by omega
 have h1 : ¬ k = 0 := by omega
 simp [wlkAt, this, h1])
def flt {α : Type} (p : α → Bool) (l : List α) (k : Nat) : List α := (l.take k).filter p
theorem flt_zero {α : Type} (p : α → Bool) (l : List α) : flt p l 0 = [] := by simp [flt]
theorem flt_all {α : Type} (p : α → Bool) (l : List α) : flt p l l.length = l.filter p := by simp [flt]
theorem flt_len {α : Type} (p : α → Bool) (l : List α) (k : Nat) : (flt p l k).length ≤ k := by
 unfold flt
 exact Nat.le_trans (List.length_filter_le _ _) (by simp; omega)
theorem flt_succ (t : RT) (p : t.ty → Bool) (l : List t.ty) (k : Nat) (h : k < l.length) : flt p l (k + 1) = if p (nth t l k) = true then flt p l k ++ [nth t l k] else flt p l k := by
 unfold flt
 rw [List.take_succ_eq_append_getElem h, List.filter_append, nth_lt t l k h]
 cases hp : p l[k] <;> simp [hp]
def wlkOut (l : List Wlk) (id : Int) : List Wlk := l.filter fun w => decide (w.id ≠ id)
def wlkOutTo (l : List Wlk) (id : Int) (k : Nat) : List Wlk := flt (fun w => decide (w.id ≠ id)) l k
theorem wlkOutTo_zero (l : List Wlk) (id : Int) : wlkOutTo l id 0 = [] := flt_zero _ _
theorem wlkOutTo_all {l : List Wlk} {id : Int} {k : Nat} (h : k = l.length) : wlkOutTo l id k = wlkOut l id := by subst h; exact flt_all _ _
theorem wlkOutTo_len (l : List Wlk) (id : Int) (k : Nat) : (wlkOutTo l id k).length ≤ k := flt_len _ _ _
theorem wlkOutTo_yes {l : List Wlk} {id : Int} {k : Nat} (h : k < l.length) (hn : (nth .wlk l k).id ≠ id) : wlkOutTo l id (k + 1) = wlkOutTo l id k ++ [nth .wlk l k] := by
 unfold wlkOutTo
 rw [flt_succ .wlk _ _ _ h, if_pos (by simpa using hn)]
theorem wlkOutTo_no {l : List Wlk} {id : Int} {k : Nat} (h : k < l.length) (hn : (nth .wlk l k).id = id) : wlkOutTo l id (k + 1) = wlkOutTo l id k := by
 unfold wlkOutTo
 rw [flt_succ .wlk _ _ _ h, if_neg (by simp [hn])]
def idx {α : Type} (p : α → Bool) (l : List α) : Int := match l.findIdx? p with
 | some i => (i : Int)
 | none => -1
theorem idx_at {α : Type} {p : α → Bool} {l : List α} {k : Nat} (h : k < l.length) (hp : p l[k] = true) (hn : ∀ j (hj : j < k), p (l[j]'(by omega)) = false) : idx p l = k := by
 have : l.findIdx? p = some k := by
  rw [List.findIdx?_eq_some_iff_getElem]
  exact ⟨h, hp, fun j hj => by simp [hn j hj]⟩
 simp [idx, this]
theorem idx_none {α : Type} {p : α → Bool} {l : List α} (hn : ∀ j (hj : j < l.length), p l[j] = false) : idx p l = -1 := by
 have : l.findIdx? p = none := by
  rw [List.findIdx?_eq_none_iff]
  intro x hx
  obtain ⟨j, hj, rfl⟩ := List.getElem_of_mem hx
  exact hn j hj
 simp [idx, this]
theorem idx_cases {α : Type} (p : α → Bool) (l : List α) : idx p l = -1 ∧ (∀ x ∈ l, p x = false) ∨ ∃ k, ∃ h : k < l.length, idx p l = (k : Int) ∧ p l[k] = true ∧ ∀ j (hj : j < k), p (l[j]'(by omega)) = false := by
 unfold idx
 cases hf : l.findIdx? p with
 | none =>
  rw [List.findIdx?_eq_none_iff] at hf
  exact .inl ⟨rfl, fun x hx => by simpa using hf x hx⟩
 | some k =>
  rw [List.findIdx?_eq_some_iff_getElem] at hf
  obtain ⟨h, h1, h2⟩ := hf
  exact .inr ⟨k, h, rfl, h1, fun j hj => by simpa using h2 j hj⟩
def isId (id : Int) (w : Wlk) : Bool := decide (w.id = id)
def wlkPlace (l : List Wlk) (id : Int) : Int := idx (isId id) l
def nid (l : List Wlk) (id : Int) (j : Nat) : Bool := !isId id (nth .wlk l j)
theorem place_at {l : List Wlk} {id : Int} {k : Nat} (h : allTo k (nid l id) = true) (hk : k < l.length) (hi : (nth .wlk l k).id = id) : wlkPlace l id = k := by
 rw [nth_lt .wlk l k hk] at hi
 refine idx_at hk (by simp [isId, hi]) fun j hj => ?_
 have := (allTo_iff k _).1 h j hj
 simp only [nid, Bool.not_eq_true'] at this
 rw [nth_lt .wlk l j (by omega)] at this
 exact this
theorem place_none {l : List Wlk} {id : Int} {k : Nat} (h : allTo k (nid l id) = true) (hk : k = l.length) : wlkPlace l id = -1 := by
 subst hk
 refine idx_none fun j hj => ?_
 have := (allTo_iff _ _).1 h j hj
 simp only [nid, Bool.not_eq_true'] at this
 rw [nth_lt .wlk l j hj] at this
 exact this
theorem place_lt (l : List Wlk) (id : Int) : -1 ≤ wlkPlace l id ∧ wlkPlace l id < l.length := by
 rcases idx_cases (isId id) l with ⟨h, _⟩ | ⟨k, hk, h, _⟩
 ·unfold wlkPlace; rw [h]; omega
 ·unfold wlkPlace; rw [h]; omega
theorem place_id {l : List Wlk} {id : Int} (h : 0 ≤ wlkPlace l id) : (nth .wlk l (wlkPlace l id).toNat).id = id := by
 rcases idx_cases (isId id) l with ⟨h', _⟩ | ⟨k, hk, h', h2, _⟩
 ·unfold wlkPlace at h; omega
 ·unfold wlkPlace; rw [h']
  rw [Int.toNat_natCast, nth_lt .wlk l k hk]
  simpa [isId] using h2
def wlkFind (l : List Wlk) (id : Int) : Wlk := if 0 ≤ wlkPlace l id then nth .wlk l (wlkPlace l id).toNat else ⟨0, 0, 0, 0, 0⟩
def wlkHas (l : List Wlk) (id : Int) : Bool := decide (0 ≤ wlkPlace l id)
def ordOk (o : Ord) : Bool := decide (1 ≤ o.who ∧ o.who ≤ 9 ∧ 1 ≤ o.seq ∧ o.seq ≤ 900 ∧
 ((o.kind = 1 ∧ 0 ≤ o.dest ∧ o.dest ≤ 1 ∧ o.n = 0) ∨ (o.kind = 2 ∧ 1 ≤ o.dest ∧ o.dest ≤ 9 ∧ o.dest ≠ o.who ∧ 1 ≤ o.n ∧ o.n ≤ 9) ∨ ((o.kind = 3 ∨ o.kind = 4) ∧ o.dest = 0 ∧ 1 ≤ o.n ∧ o.n ≤ 9) ∨
  (o.kind = 5 ∧ 0 ≤ o.dest ∧ o.dest ≤ 1 ∧ 1 ≤ o.n ∧ o.n ≤ 9) ∨ (o.kind = 6 ∧ o.dest = 0 ∧ o.n = 0)))
def zeroW (w : Wlk) : Bool := decide (w.id = 0 ∧ w.pos = 0 ∧ w.coins = 0 ∧ w.seq = 0 ∧ w.last = 0)
def pclFormed (p : Pcl) : Bool := decide (0 ≤ p.n ∧ p.n ≤ 4999 ∧ (p.kind = 1 ∧ p.coins = 0 ∨ p.kind = 2 ∧ zeroW p.wlk = true ∧ 1 ≤ p.coins ∧ p.coins ≤ 9))
def pclOk (m : PMap) (p : Pcl) : Bool := decide (plcOk m = true ∧ 0 ≤ p.n ∧ p.n ≤ 4999 ∧ (p.kind = 1 ∧ wlkOk m p.wlk = true ∧ p.coins = 0 ∨ p.kind = 2 ∧ zeroW p.wlk = true ∧ 1 ≤ p.coins ∧ p.coins ≤ 9))
def pclAt (m : PMap) (l : List Pcl) (next : Int) (i : Nat) : Bool := pclOk m (nth .pcl l i) && decide ((nth .pcl l i).n = next - l.length + i)
def pclListOk (m : PMap) (l : List Pcl) (next : Int) : Bool := decide (plcOk m = true ∧ 0 ≤ next ∧ next ≤ 5000 ∧ (l.length : Int) ≤ next) && allTo l.length (pclAt m l next)
theorem pclListOk_bad {m : PMap} {l : List Pcl} {next : Int} {k : Nat} (h : k < l.length) (hw : pclOk m (nth .pcl l k) = false) : pclListOk m l next = false := by
 have := allTo_false (f := pclAt m l next) h (by simp [pclAt, hw])
 simp [pclListOk, this]
theorem pclListOk_bad2 {m : PMap} {l : List Pcl} {next : Int} {k : Nat} (h : k < l.length) (hw : ¬ (nth .pcl l k).n = next - l.length + k) : pclListOk m l next = false := by
 have := allTo_false (f := pclAt m l next) h (by simp [pclAt, hw])
 simp [pclListOk, this]
def pclFrom (l : List Pcl) (n : Int) : List Pcl := l.filter fun p => decide (n ≤ p.n)
def pclFromTo (l : List Pcl) (n : Int) (k : Nat) : List Pcl := flt (fun p => decide (n ≤ p.n)) l k
theorem pclFromTo_zero (l : List Pcl) (n : Int) : pclFromTo l n 0 = [] := flt_zero _ _
theorem pclFromTo_all {l : List Pcl} {n : Int} {k : Nat} (h : k = l.length) : pclFromTo l n k = pclFrom l n := by subst h; exact flt_all _ _
theorem pclFromTo_len (l : List Pcl) (n : Int) (k : Nat) : (pclFromTo l n k).length ≤ k := flt_len _ _ _
theorem pclFromTo_yes {l : List Pcl} {n : Int} {k : Nat} (h : k < l.length) (hn : n ≤ (nth .pcl l k).n) : pclFromTo l n (k + 1) = pclFromTo l n k ++ [nth .pcl l k] := by
 unfold pclFromTo
 rw [flt_succ .pcl _ _ _ h, if_pos (by simpa using hn)]
theorem pclFromTo_no {l : List Pcl} {n : Int} {k : Nat} (h : k < l.length) (hn : (nth .pcl l k).n < n) : pclFromTo l n (k + 1) = pclFromTo l n k := by
 unfold pclFromTo
 rw [flt_succ .pcl _ _ _ h, if_neg (by simpa using hn)]
structure CllB (c : Cll) : Prop where
 w : c.wlks.length * 40 ≤ 140737488355328
 o : c.outs.length * 24 ≤ 140737488355328
 oi : ∀ i, i < c.outs.length → (nth .pcls c.outs i).length * 64 ≤ 140737488355328
 n : c.next.length * 8 ≤ 140737488355328
 i : c.ins.length * 8 ≤ 140737488355328
 cell : -9223372036854775808 ≤ c.cell ∧ c.cell ≤ 9223372036854775807
 ground : -9223372036854775808 ≤ c.ground ∧ c.ground ≤ 9223372036854775807
theorem okCll {c : Cll} (h : ∀ a ∈ (PT.row .cll).encA (fun _ => c), OkA a) : CllB c := by
 have h1 := okI (h _ (.head _))
 have h2 := okB (h _ (.tail _ (.head _)))
 have h3 := okI (h _ (.tail _ (.tail _ (.head _))))
 have h4 := h _ (.tail _ (.tail _ (.tail _ (.head _))))
 have h5 := okB (h _ (.tail _ (.tail _ (.tail _ (.tail _ (.head _))))))
 have h6 := okB (h _ (.tail _ (.tail _ (.tail _ (.tail _ (.tail _ (.head _)))))))
 refine ⟨h2, okB h4, fun i hi => ?_, h5, h6, h1, h3⟩
 cases h4 with
 | list _ _ _ g =>
  have := g i 0 _ hi rfl
  exact okB this
theorem take_snoc (t : RT) (l : List t.ty) (k : Nat) (h : k < l.length) : l.take (k + 1) = l.take k ++ [nth t l k] := by
 rw [List.take_succ_eq_append_getElem h, nth_lt t l k h]
def pre {α : Type} (l : List α) (k : Nat) : List α := l.take k
theorem pre_zero {α : Type} (l : List α) : pre l 0 = [] := by simp [pre]
theorem pre_all {α : Type} {l : List α} {k : Nat} (h : k = l.length) : pre l k = l := by subst h; simp [pre]
theorem pre_succ (t : RT) {l : List t.ty} {k : Nat} (h : k < l.length) : pre l (k + 1) = pre l k ++ [nth t l k] := take_snoc t l k h
theorem pre_len {α : Type} (l : List α) (k : Nat) : (pre l k).length ≤ k := by simp [pre]; omega
def pclDest (m : PMap) (there : Int) (l : List Pcl) (i : Nat) : Bool := decide ((nth .pcl l i).kind = 1 → plcCell m (nth .pcl l i).wlk.pos = there)
def sideHead (m : PMap) (c : Cll) (s : Nat) : Bool := decide (pclListOk m (nth .pcls c.outs s) (nth .int c.next s) = true ∧ 0 ≤ nth .int c.ins s ∧ nth .int c.ins s ≤ 5000 ∧ (plcSide m c.cell s = -1 → nth .int c.next s = 0 ∧ nth .int c.ins s = 0))
def cllSide (m : PMap) (c : Cll) (s : Nat) : Bool := sideHead m c s && allTo (nth .pcls c.outs s).length (pclDest m (plcSide m c.cell s) (nth .pcls c.outs s))
def wlkIn (m : PMap) (c : Cll) (i : Nat) : Bool := decide (plcCell m (nth .wlk c.wlks i).pos = c.cell)
def cllHead (m : PMap) (c : Cll) : Bool := decide (wlkAll m c.wlks = true ∧ plcOk m = true ∧ 0 ≤ c.cell ∧ c.cell < m.cells ∧ 0 ≤ c.ground ∧ c.ground ≤ 900 ∧ c.outs.length = 2 ∧ c.next.length = 2 ∧ c.ins.length = 2)
def cllOk (m : PMap) (c : Cll) : Bool := cllHead m c && allTo c.wlks.length (wlkIn m c) && allTo 2 (cllSide m c)
theorem cllOk_bad1 {m : PMap} {c : Cll} {k : Nat} (h : k < c.wlks.length) (hw : ¬ plcCell m (nth .wlk c.wlks k).pos = c.cell) : cllOk m c = false := by
 have := allTo_false (f := wlkIn m c) h (by simp [wlkIn, hw])
 simp [cllOk, this]
theorem cllOk_bad2 {m : PMap} {c : Cll} {k : Nat} (h : k < 2) (hw : cllSide m c k = false) : cllOk m c = false := by
 have := allTo_false (f := cllSide m c) h hw
 simp [cllOk, this]
theorem cllSide_bad {m : PMap} {c : Cll} {s k : Nat} (h : k < (nth .pcls c.outs s).length) (h1 : (nth .pcl (nth .pcls c.outs s) k).kind = 1) (hw : ¬ plcCell m (nth .pcl (nth .pcls c.outs s) k).wlk.pos = plcSide m c.cell s) : cllSide m c s = false := by
 have := allTo_false (f := pclDest m (plcSide m c.cell s) (nth .pcls c.outs s)) h (by simp [pclDest, h1, hw])
 simp [cllSide, this]
theorem pclListOk_len {m : PMap} {l : List Pcl} {n : Int} (h : pclListOk m l n = true) : (l.length : Int) ≤ n := by
 simp [pclListOk] at h
 omega
theorem cllSide_empty {m : PMap} {c : Cll} {s : Nat} (h : sideHead m c s = true) (hn : plcSide m c.cell s = -1) : cllSide m c s = true := by
 have h' := h
 simp only [sideHead, decide_eq_true_eq] at h'
 obtain ⟨h1, _, _, h4⟩ := h'
 have h5 := pclListOk_len h1
 have h6 : @Eq Int (nth .int c.next s) 0 := (h4 hn).1
 rw [h6] at h5
 have : (nth .pcls c.outs s).length = 0 := by omega
 simp [cllSide, h, this, allTo_zero]
def sideInv (m : PMap) (c : Cll) (s k : Nat) : Prop := s < 2 ∧ cllHead m c = true ∧ allTo c.wlks.length (wlkIn m c) = true ∧ allTo s (cllSide m c) = true ∧ sideHead m c s = true ∧ k ≤ (nth .pcls c.outs s).length ∧ allTo k (pclDest m (plcSide m c.cell s) (nth .pcls c.outs s)) = true
theorem cllOk_head {m : PMap} {c : Cll} (h : cllOk m c = true) : cllHead m c = true ∧ allTo c.wlks.length (wlkIn m c) = true ∧ allTo 2 (cllSide m c) = true := by
 simpa [cllOk, and_assoc] using h
theorem cllOk_facts {m : PMap} {c : Cll} (h : cllOk m c = true) : wlkAll m c.wlks = true ∧ plcOk m = true ∧ 0 ≤ c.cell ∧ c.cell < m.cells ∧ 0 ≤ c.ground ∧ c.ground ≤ 900 ∧ c.outs.length = 2 ∧ c.next.length = 2 ∧ c.ins.length = 2 := by
 have := (cllOk_head h).1
 simpa [cllHead] using this
theorem wlkOk_iff {m : PMap} {w : Wlk} : wlkOk m w = true ↔ (1 ≤ w.id ∧ w.id ≤ 9 ∧ plcCell m w.pos ≠ -1 ∧ 0 ≤ w.coins ∧ w.coins ≤ 99 ∧ 0 ≤ w.seq ∧ w.seq ≤ 900 ∧ 0 ≤ w.last ∧ w.last ≤ 9) := by simp [wlkOk]
theorem wlkAll_at {m : PMap} {l : List Wlk} (h : wlkAll m l = true) {i : Nat} (hi : i < l.length) : wlkOk m (nth .wlk l i) = true := by
 have := (allTo_iff _ _).1 h i hi
 simp [wlkAt] at this
 exact this.1
theorem plcCell_pos {m : PMap} {p : Int} (h : plcCell m p ≠ -1) : 0 ≤ p ∧ p < 32 := by
 obtain ⟨h1, h2, h3, _⟩ := plcCell_ne h
 have := (plc_mul h1).2
 omega
theorem cllOk_wlk {m : PMap} {c : Cll} (h : cllOk m c = true) {i : Nat} (hi : i < c.wlks.length) :
  (1 ≤ (nth .wlk c.wlks i).id ∧ (nth .wlk c.wlks i).id ≤ 9) ∧ (0 ≤ (nth .wlk c.wlks i).pos ∧ (nth .wlk c.wlks i).pos < 32) ∧ (0 ≤ (nth .wlk c.wlks i).coins ∧ (nth .wlk c.wlks i).coins ≤ 99) ∧
   (0 ≤ (nth .wlk c.wlks i).seq ∧ (nth .wlk c.wlks i).seq ≤ 900) ∧ (0 ≤ (nth .wlk c.wlks i).last ∧ (nth .wlk c.wlks i).last ≤ 9) ∧ plcCell m (nth .wlk c.wlks i).pos = c.cell := by
 obtain ⟨h1, h2, _⟩ := cllOk_head h
 have h3 := wlkOk_iff.1 (wlkAll_at (cllOk_facts h).1 hi)
 have h4 := (allTo_iff _ _).1 h2 i hi
 simp [wlkIn] at h4
 have h5 := plcCell_pos h3.2.2.1
 exact ⟨⟨h3.1, h3.2.1⟩, h5, ⟨h3.2.2.2.1, h3.2.2.2.2.1⟩, ⟨h3.2.2.2.2.2.1, h3.2.2.2.2.2.2.1⟩, h3.2.2.2.2.2.2.2, h4⟩
theorem cllOk_side {m : PMap} {c : Cll} (h : cllOk m c = true) {s : Nat} (hs : s < 2) :
  (0 ≤ nth .int c.next s ∧ nth .int c.next s ≤ 5000) ∧ (0 ≤ nth .int c.ins s ∧ nth .int c.ins s ≤ 5000) ∧ ((nth .pcls c.outs s).length : Int) ≤ nth .int c.next s ∧ pclListOk m (nth .pcls c.outs s) (nth .int c.next s) = true := by
 obtain ⟨_, _, h3⟩ := cllOk_head h
 have h4 := (allTo_iff _ _).1 h3 s hs
 simp only [cllSide, sideHead, Bool.and_eq_true, decide_eq_true_eq] at h4
 have h5 := h4.1.1
 simp only [pclListOk, Bool.and_eq_true, decide_eq_true_eq] at h5
 exact ⟨⟨h5.1.2.1, h5.1.2.2.1⟩, ⟨h4.1.2.1, h4.1.2.2.1⟩, h5.1.2.2.2, h4.1.1⟩
theorem ordOk_iff {o : Ord} : ordOk o = true ↔ (1 ≤ o.who ∧ o.who ≤ 9 ∧ 1 ≤ o.seq ∧ o.seq ≤ 900 ∧
 ((o.kind = 1 ∧ 0 ≤ o.dest ∧ o.dest ≤ 1 ∧ o.n = 0) ∨ (o.kind = 2 ∧ 1 ≤ o.dest ∧ o.dest ≤ 9 ∧ o.dest ≠ o.who ∧ 1 ≤ o.n ∧ o.n ≤ 9) ∨ ((o.kind = 3 ∨ o.kind = 4) ∧ o.dest = 0 ∧ 1 ≤ o.n ∧ o.n ≤ 9) ∨
  (o.kind = 5 ∧ 0 ≤ o.dest ∧ o.dest ≤ 1 ∧ 1 ≤ o.n ∧ o.n ≤ 9) ∨ (o.kind = 6 ∧ o.dest = 0 ∧ o.n = 0))) := by simp [ordOk]
theorem nth_set_eq (t : RT) {l : List t.ty} {i : Nat} {x : t.ty} (h : i < l.length) : nth t (l.set i x) i = x := by
 simp [nth, List.getD, h]
theorem nth_set_ne (t : RT) {l : List t.ty} {i j : Nat} {x : t.ty} (h : i ≠ j) : nth t (l.set i x) j = nth t l j := by
 simp [nth, List.getD, List.getElem?_set_ne h]
theorem setNth_app (t : RT) (l : Th (List t.ty)) (i : Th Int) (e : Th t.ty) (u : Unit) : setNth t l i e u = (l ()).set (i ()).toNat (e ()) := rfl
theorem place_ge {l : List Wlk} {id : Int} (h : ¬ wlkPlace l id < 0) : (wlkPlace l id).toNat < l.length := by
 have := place_lt l id
 omega
theorem place_ne {l : List Wlk} {a b : Int} (ha : ¬ wlkPlace l a < 0) (hb : ¬ wlkPlace l b < 0) (h : b ≠ a) : (wlkPlace l a).toNat ≠ (wlkPlace l b).toNat := by
 intro he
 have h1 := place_id (l := l) (id := a) (by omega)
 have h2 := place_id (l := l) (id := b) (by omega)
 rw [he, h2] at h1
 exact h h1
theorem ord_give {o : Ord} (h : ordOk o = true) (h2 : o.kind = 2) : o.dest ≠ o.who := by
 rw [ordOk_iff] at h
 omega
theorem step_wrap {m : PMap} {c : Cll} {o : Ord} {i : Nat} (h : cllOk m c = true) (hi : i < c.wlks.length) (ho : ordOk o = true) (hk : o.kind = 1) : IntKind.i64.wrap ((nth .wlk c.wlks i).pos + (2 * o.dest - 1)) = (nth .wlk c.wlks i).pos + (2 * o.dest - 1) := by
 have h1 := cllOk_wlk h hi
 rw [ordOk_iff] at ho
 exact wrap_id (by omega) (by omega)
theorem set_swap {α : Type} {l : List α} {i j : Nat} {a b c : α} (h : i ≠ j) : ((l.set i a).set j b).set i c = (l.set j b).set i c := by
 rw [List.set_comm _ _ h, List.set_set]
theorem idx_congr {α : Type} {p : α → Bool} : ∀ {l k : List α}, l.map p = k.map p → idx p l = idx p k := by
 intro l k h
 have h2 : ∀ (l : List α), l.findIdx? p = (l.map p).findIdx? id := by
  intro l
  induction l with
  | nil => rfl
  | cons x r ih => simp only [List.map_cons, List.findIdx?_cons, id, ih]
 unfold idx
 rw [h2 l, h2 k, h]
theorem map_set_same {α β : Type} (f : α → β) {l : List α} {i : Nat} {x : α} (h : ∀ y, l[i]? = some y → f x = f y) : (l.set i x).map f = l.map f := by
 apply List.ext_getElem?
 intro j
 by_cases hj : i = j
 ·subst hj
  simp only [List.getElem?_map, List.getElem?_set_self']
  cases hy : l[i]? with
  | none => simp
  | some y => simp [h y hy]
 ·simp [List.getElem?_set_ne hj]
theorem place_set {l : List Wlk} {i : Nat} {w : Wlk} {id : Int} (h : w.id = (nth .wlk l i).id) : wlkPlace (l.set i w) id = wlkPlace l id := by
 unfold wlkPlace
 refine idx_congr (map_set_same _ fun y hy => ?_)
 have : nth .wlk l i = y := by simp [nth, List.getD, hy]
 rw [this] at h
 simp [isId, h]
structure CD where
 c : Cll
 code : Int
def cllFin (c : Cll) (i : Nat) (w : Wlk) (g : Int) (code : Int) : CD := ⟨⟨c.cell, c.wlks.set i ⟨w.id, w.pos, w.coins, w.seq, code⟩, g, c.outs, c.next, c.ins⟩, code⟩
def sendOuts (c : Cll) (s : Nat) (p : Pcl) : List (List Pcl) := c.outs.set s (nth .pcls c.outs s ++ [⟨nth .int c.next s, p.kind, p.wlk, p.coins⟩])
def sendNext (c : Cll) (s : Nat) : List Int := c.next.set s (nth .int c.next s + 1)
def doStep (m : PMap) (c : Cll) (i : Nat) (w : Wlk) (o : Ord) : CD :=
 if plcCell m (w.pos + (2 * o.dest - 1)) = -1 then cllFin c i w c.ground 2
 else if plcCell m (w.pos + (2 * o.dest - 1)) = c.cell then cllFin c i ⟨w.id, w.pos + (2 * o.dest - 1), w.coins, w.seq, w.last⟩ c.ground 1
 else if nth .int c.next o.dest.toNat = 5000 then cllFin c i w c.ground 2
 else ⟨⟨c.cell, wlkOut (c.wlks.set i w) o.who, c.ground, sendOuts c o.dest.toNat ⟨0, 1, ⟨w.id, w.pos + (2 * o.dest - 1), w.coins, w.seq, 1⟩, 0⟩, sendNext c o.dest.toNat, c.ins⟩, 1⟩
def doGive (c : Cll) (i : Nat) (w : Wlk) (o : Ord) : CD :=
 if wlkPlace c.wlks o.dest < 0 then cllFin c i w c.ground 4
 else if w.coins < o.n then cllFin c i w c.ground 3
 else if 99 < (nth .wlk c.wlks (wlkPlace c.wlks o.dest).toNat).coins + o.n then cllFin c i w c.ground 5
 else
  let v := nth .wlk c.wlks (wlkPlace c.wlks o.dest).toNat
  ⟨⟨c.cell, (c.wlks.set (wlkPlace c.wlks o.dest).toNat ⟨v.id, v.pos, v.coins + o.n, v.seq, v.last⟩).set i ⟨w.id, w.pos, w.coins - o.n, w.seq, 1⟩, c.ground, c.outs, c.next, c.ins⟩, 1⟩
def doDrop (c : Cll) (i : Nat) (w : Wlk) (o : Ord) : CD :=
 if w.coins < o.n then cllFin c i w c.ground 3 else if 900 < c.ground + o.n then cllFin c i w c.ground 5 else cllFin c i ⟨w.id, w.pos, w.coins - o.n, w.seq, w.last⟩ (c.ground + o.n) 1
def doPick (c : Cll) (i : Nat) (w : Wlk) (o : Ord) : CD :=
 if c.ground < o.n then cllFin c i w c.ground 6 else if 99 < w.coins + o.n then cllFin c i w c.ground 5 else cllFin c i ⟨w.id, w.pos, w.coins + o.n, w.seq, w.last⟩ (c.ground - o.n) 1
def doThrow (m : PMap) (c : Cll) (i : Nat) (w : Wlk) (o : Ord) : CD :=
 if plcEdge m w.pos o.dest = false then cllFin c i w c.ground 7
 else if w.coins < o.n then cllFin c i w c.ground 3
 else if nth .int c.next o.dest.toNat = 5000 then cllFin c i w c.ground 5
 else ⟨⟨c.cell, c.wlks.set i ⟨w.id, w.pos, w.coins - o.n, w.seq, 1⟩, c.ground, sendOuts c o.dest.toNat ⟨0, 2, ⟨0, 0, 0, 0, 0⟩, o.n⟩, sendNext c o.dest.toNat, c.ins⟩, 1⟩
def doKind (m : PMap) (c : Cll) (i : Nat) (w : Wlk) (o : Ord) : CD :=
 if o.kind = 1 then doStep m c i w o
 else if o.kind = 2 then doGive c i w o
 else if o.kind = 3 then doDrop c i w o
 else if o.kind = 4 then doPick c i w o
 else if o.kind = 5 then doThrow m c i w o
 else cllFin c i w c.ground 1
def cllDo (m : PMap) (c : Cll) (o : Ord) : CD :=
 if wlkPlace c.wlks o.who < 0 then ⟨c, 9⟩
 else
  let w := nth .wlk c.wlks (wlkPlace c.wlks o.who).toNat
  if o.seq < w.seq then ⟨c, 8⟩
  else if o.seq = w.seq then ⟨c, w.last⟩
  else doKind m c (wlkPlace c.wlks o.who).toNat ⟨w.id, w.pos, w.coins, o.seq, w.last⟩ o
def zeroC : Cll := ⟨0, [], 0, [], [], []⟩
def above (id : Int) (w : Wlk) : Bool := decide (id < w.id)
def nab (l : List Wlk) (id : Int) (j : Nat) : Bool := !above id (nth .wlk l j)
def putPos (l : List Wlk) (id : Int) : Nat := if idx (above id) l < 0 then l.length else (idx (above id) l).toNat
def wlkPut (l : List Wlk) (w : Wlk) : List Wlk := insL (wlkOut l w.id) (putPos (wlkOut l w.id) w.id) [w]
theorem above_lt (l : List Wlk) (id : Int) : -1 ≤ idx (above id) l ∧ idx (above id) l < l.length := by
 rcases idx_cases (above id) l with ⟨h, _⟩ | ⟨k, hk, h, _⟩ <;> rw [h] <;> omega
theorem putPos_le (l : List Wlk) (id : Int) : putPos l id ≤ l.length := by
 have := above_lt l id
 unfold putPos
 split <;> omega
theorem above_at {l : List Wlk} {id : Int} {k : Nat} (h : allTo k (nab l id) = true) (hk : k < l.length) (hi : id < (nth .wlk l k).id) : idx (above id) l = k := by
 rw [nth_lt .wlk l k hk] at hi
 refine idx_at hk (by simp [above, hi]) fun j hj => ?_
 have := (allTo_iff k _).1 h j hj
 simp only [nab, Bool.not_eq_true'] at this
 rw [nth_lt .wlk l j (by omega)] at this
 exact this
theorem above_none {l : List Wlk} {id : Int} {k : Nat} (h : allTo k (nab l id) = true) (hk : k = l.length) : idx (above id) l = -1 := by
 subst hk
 refine idx_none fun j hj => ?_
 have := (allTo_iff _ _).1 h j hj
 simp only [nab, Bool.not_eq_true'] at this
 rw [nth_lt .wlk l j hj] at this
 exact this
def putTo (l : List Wlk) (w : Wlk) (k : Nat) : List Wlk := if putPos l w.id < k then insL (l.take k) (putPos l w.id) [w] else l.take k
def putDone (l : List Wlk) (w : Wlk) (k : Nat) : Bool := decide (putPos l w.id < k)
theorem putTo_zero (l : List Wlk) (w : Wlk) : putTo l w 0 = [] := by simp [putTo]
theorem putTo_len (l : List Wlk) (w : Wlk) (k : Nat) : (putTo l w k).length ≤ k + 1 := by
 unfold putTo
 split
 ·simp [insL]; omega
 ·simp; omega
theorem putTo_len2 {l : List Wlk} {w : Wlk} {k : Nat} (h : putDone l w k = false) : (putTo l w k).length ≤ k := by
 simp only [putDone, decide_eq_false_iff_not] at h
 unfold putTo
 rw [if_neg h, List.length_take]
 omega
theorem take_snoc' {l : List Wlk} {k : Nat} (h : k < l.length) : l.take (k + 1) = l.take k ++ [nth .wlk l k] := take_snoc .wlk l k h
theorem putTo_after {l : List Wlk} {w : Wlk} {k : Nat} (h : k < l.length) (hd : putDone l w k = true) : putTo l w (k + 1) = putTo l w k ++ [nth .wlk l k] := by
 simp only [putDone, decide_eq_true_eq] at hd
 unfold putTo
 rw [if_pos (by omega), if_pos hd, take_snoc' h]
 simp only [insL]
 rw [List.take_append_of_le_length (by rw [List.length_take]; omega), List.drop_append_of_le_length (by rw [List.length_take]; omega)]
 simp
theorem putTo_here {l : List Wlk} {w : Wlk} {k : Nat} (h : k < l.length) (hd : putDone l w k = false) (hi : w.id < (nth .wlk l k).id) : putPos l w.id = k → putTo l w (k + 1) = putTo l w k ++ [w] ++ [nth .wlk l k] := by
 intro hp
 unfold putTo
 rw [if_pos (by omega), if_neg (by omega), take_snoc' h, hp]
 simp only [insL]
 rw [List.take_append_of_le_length (by rw [List.length_take]; omega), List.drop_append_of_le_length (by rw [List.length_take]; omega)]
 simp [List.take_take]
theorem putTo_before {l : List Wlk} {w : Wlk} {k : Nat} (h : k < l.length) (hp : ¬ putPos l w.id < k + 1) : putTo l w (k + 1) = putTo l w k ++ [nth .wlk l k] := by
 unfold putTo
 rw [if_neg hp, if_neg (by omega), take_snoc' h]
theorem nab_pos {l : List Wlk} {id : Int} {k : Nat} (hk : k ≤ l.length) : ¬ putPos l id < k → allTo k (nab l id) = true := by
 intro h
 rw [allTo_iff]
 intro j hj
 simp only [nab, Bool.not_eq_true']
 rcases idx_cases (above id) l with ⟨_, h2⟩ | ⟨i, hi, h1, h2, h3⟩
 ·rw [nth_lt .wlk l j (by omega)]
  exact h2 _ (List.getElem_mem _)
 ·unfold putPos at h
  rw [h1, if_neg (by omega)] at h
  rw [nth_lt .wlk l j (by omega)]
  exact h3 j (by omega)
theorem putPos_here {l : List Wlk} {w : Wlk} {k : Nat} (h : k < l.length) (hd : putDone l w k = false) (hi : w.id < (nth .wlk l k).id) : putPos l w.id = k := by
 simp only [putDone, decide_eq_false_iff_not] at hd
 have := above_at (nab_pos (by omega) hd) h hi
 unfold putPos
 rw [this, if_neg (by omega)]
 rfl
theorem putPos_not {l : List Wlk} {w : Wlk} {k : Nat} (h : k < l.length) (hd : putDone l w k = false) (hi : ¬ w.id < (nth .wlk l k).id) : ¬ putPos l w.id < k + 1 := by
 simp only [putDone, decide_eq_false_iff_not] at hd
 intro hlt
 have he : putPos l w.id = k := by omega
 rcases idx_cases (above w.id) l with ⟨h1, h2⟩ | ⟨i, hi', h1, h2, h3⟩
 ·unfold putPos at he
  rw [h1] at he
  simp at he
  omega
 ·unfold putPos at he
  rw [h1, if_neg (by omega)] at he
  have : i = k := by omega
  subst this
  rw [nth_lt .wlk l i h] at hi
  simp [above] at h2
  exact hi h2
theorem putTo_succ1 {l : List Wlk} {w : Wlk} {k : Nat} (h : k < l.length) (hd : putDone l w k = false) (hi : w.id < (nth .wlk l k).id) : putTo l w (k + 1) = putTo l w k ++ [w] ++ [nth .wlk l k] ∧ putDone l w (k + 1) = true := by
 have hp := putPos_here h hd hi
 exact ⟨putTo_here h hd hi hp, by simp [putDone, hp]⟩
theorem putTo_succ2 {l : List Wlk} {w : Wlk} {k : Nat} (h : k < l.length) (hd : putDone l w k = false) (hi : ¬ w.id < (nth .wlk l k).id) : putTo l w (k + 1) = putTo l w k ++ [nth .wlk l k] ∧ putDone l w (k + 1) = false := by
 have hp := putPos_not h hd hi
 exact ⟨putTo_before h hp, by simp [putDone]; omega⟩
theorem putTo_succ3 {l : List Wlk} {w : Wlk} {k : Nat} (h : k < l.length) (hd : putDone l w k = true) : putTo l w (k + 1) = putTo l w k ++ [nth .wlk l k] ∧ putDone l w (k + 1) = true := by
 refine ⟨putTo_after h hd, ?_⟩
 simp only [putDone, decide_eq_true_eq] at hd ⊢
 omega
theorem putTo_end1 {l : List Wlk} {w : Wlk} {k : Nat} (h : k = l.length) (hd : putDone l w k = true) : putTo l w k = insL l (putPos l w.id) [w] := by
 simp only [putDone, decide_eq_true_eq] at hd
 subst h
 unfold putTo
 rw [if_pos hd]
 simp
theorem putTo_end2 {l : List Wlk} {w : Wlk} {k : Nat} (h : k = l.length) (hd : putDone l w k = false) : putTo l w k ++ [w] = insL l (putPos l w.id) [w] := by
 simp only [putDone, decide_eq_false_iff_not] at hd
 have h2 := putPos_le l w.id
 have h3 : putPos l w.id = l.length := by omega
 subst h
 unfold putTo
 rw [if_neg hd, h3]
 simp [insL]
theorem putDone_succ1 {l : List Wlk} {w : Wlk} {k : Nat} (h : k < l.length) (hd : putDone l w k = false) (hi : w.id < (nth .wlk l k).id) : putDone l w (k + 1) = true := (putTo_succ1 h hd hi).2
theorem putDone_succ2 {l : List Wlk} {w : Wlk} {k : Nat} (h : k < l.length) (hd : putDone l w k = false) (hi : ¬ w.id < (nth .wlk l k).id) : putDone l w (k + 1) = false := (putTo_succ2 h hd hi).2
theorem putDone_succ3 {l : List Wlk} {w : Wlk} {k : Nat} (h : k < l.length) (hd : putDone l w k = true) : putDone l w (k + 1) = true := (putTo_succ3 h hd).2
theorem putDone_zero (l : List Wlk) (w : Wlk) : putDone l w 0 = false := by simp [putDone]
theorem wlkPut_eq (l : List Wlk) (w : Wlk) : wlkPut l w = insL (wlkOut l w.id) (putPos (wlkOut l w.id) w.id) [w] := rfl
theorem wlkOut_len (l : List Wlk) (id : Int) : (wlkOut l id).length ≤ l.length := List.length_filter_le _ _
theorem wlkPut_len (l : List Wlk) (w : Wlk) : (wlkPut l w).length ≤ l.length + 1 := by
 have := wlkOut_len l w.id
 rw [wlkPut, insL_len (putPos_le _ _)]
 simp; omega
def zeroO (o : Ord) : Bool := decide (o.who = 0 ∧ o.seq = 0 ∧ o.kind = 0 ∧ o.dest = 0 ∧ o.n = 0)
def zeroP (p : Pcl) : Bool := decide (p.n = 0 ∧ p.kind = 0 ∧ zeroW p.wlk = true ∧ p.coins = 0)
def recFormed (r : Rec) : Bool := decide ((r.kind = 1 ∧ ordOk r.ord = true ∧ r.side = 0 ∧ zeroP r.pcl = true ∧ r.n = 0) ∨ (r.kind = 2 ∧ (r.side = 0 ∨ r.side = 1) ∧ zeroO r.ord = true ∧ r.n = 0) ∨
 (r.kind = 3 ∧ (r.side = 0 ∨ r.side = 1) ∧ 1 ≤ r.n ∧ r.n ≤ 5000 ∧ zeroO r.ord = true ∧ zeroP r.pcl = true))
def logOk (m : PMap) (r : Rec) : Bool := decide (plcOk m = true ∧ recFormed r = true ∧ (r.kind = 2 → pclOk m r.pcl = true))
theorem pclOk_iff {m : PMap} {p : Pcl} : pclOk m p = true ↔ plcOk m = true ∧ 0 ≤ p.n ∧ p.n ≤ 4999 ∧ (p.kind = 1 ∧ wlkOk m p.wlk = true ∧ p.coins = 0 ∨ p.kind = 2 ∧ zeroW p.wlk = true ∧ 1 ≤ p.coins ∧ p.coins ≤ 9) := by simp [pclOk]
theorem pclOk_plc {m : PMap} {p : Pcl} (h : pclOk m p = true) : plcOk m = true := by simp [pclOk] at h; exact h.1
def cllFresh (c : Cll) (o : Ord) : Bool := wlkHas c.wlks o.who && decide ((wlkFind c.wlks o.who).seq < o.seq)
structure CB where
 c : Cll
 ok : Bool
def insNext (c : Cll) (s : Nat) : List Int := c.ins.set s (nth .int c.ins s + 1)
def cllRecv (m : PMap) (c : Cll) (s : Nat) (p : Pcl) : CB :=
 if ¬ p.n = nth .int c.ins s ∨ 900 < c.ground + p.coins then ⟨c, false⟩
 else if p.kind = 2 then ⟨⟨c.cell, c.wlks, c.ground + p.coins, c.outs, c.next, insNext c s⟩, true⟩
 else if 0 ≤ wlkPlace c.wlks p.wlk.id ∨ ¬ plcCell m p.wlk.pos = c.cell then ⟨c, false⟩
 else ⟨⟨c.cell, wlkPut c.wlks p.wlk, c.ground, c.outs, c.next, insNext c s⟩, true⟩
theorem gwrap {m : PMap} {c : Cll} {p : Pcl} (h : cllOk m c = true) (hp : pclOk m p = true) : IntKind.i64.wrap (c.ground + p.coins) = c.ground + p.coins := by
 have h1 := cllOk_facts h
 rw [pclOk_iff] at hp
 exact wrap_id (by omega) (by omega)
theorem recv_no {m : PMap} {c : Cll} {s : Nat} {p : Pcl} (h : (cllRecv m c s p).ok = false) : (cllRecv m c s p).c = c := by
 unfold cllRecv at *
 split at * <;> (try split at *) <;> (try split at *) <;> simp_all
def relOuts (c : Cll) (s : Nat) (n : Int) : List (List Pcl) := c.outs.set s (pclFrom (nth .pcls c.outs s) n)
def cllRel (c : Cll) (s : Nat) (n : Int) : CB :=
 if nth .int c.next s < n ∨ n ≤ nth .int c.next s - (nth .pcls c.outs s).length then ⟨c, false⟩ else ⟨⟨c.cell, c.wlks, c.ground, relOuts c s n, c.next, c.ins⟩, true⟩
theorem rel_no {c : Cll} {s : Nat} {n : Int} (h : (cllRel c s n).ok = false) : (cllRel c s n).c = c := by
 unfold cllRel at *
 split at * <;> simp_all
theorem list_first {m : PMap} {l : List Pcl} {n : Int} (h : pclListOk m l n = true) (h0 : 0 < l.length) : (nth .pcl l 0).n = n - l.length := by
 simp only [pclListOk, Bool.and_eq_true] at h
 have := (allTo_iff _ _).1 h.2 0 h0
 simp [pclAt] at this
 exact this.2
structure AP where
 c : Cll
 code : Int
 ok : Bool
def cllApply (m : PMap) (c : Cll) (r : Rec) : AP :=
 if r.kind = 1 then (if cllFresh c r.ord = true then ⟨(cllDo m c r.ord).c, (cllDo m c r.ord).code, true⟩ else ⟨c, 0, false⟩)
 else if plcSide m c.cell r.side = -1 then ⟨c, 0, false⟩
 else if r.kind = 2 then ⟨(cllRecv m c r.side.toNat r.pcl).c, 0, (cllRecv m c r.side.toNat r.pcl).ok⟩
 else ⟨(cllRel c r.side.toNat r.n).c, 0, (cllRel c r.side.toNat r.n).ok⟩
def cllApplyL (m : PMap) (c : Cll) (r : Rec) : AP := if logOk m r = true then cllApply m c r else ⟨c, 0, false⟩
def cllApplyX (m : PMap) (c : Cll) (r : Rec) : AP := if cllOk m c = true ∧ logOk m r = true then cllApply m c r else ⟨zeroC, 0, false⟩
def srt (l : List Wlk) : Prop := ∀ i j, i < j → j < l.length → (nth .wlk l i).id < (nth .wlk l j).id
theorem srt_of {m : PMap} {l : List Wlk} (h : wlkAll m l = true) : srt l := by
 intro i j hij
 induction j with
 | zero => omega
 | succ j ih =>
  intro hj
  have h1 := (allTo_iff _ _).1 h (j + 1) hj
  simp only [wlkAt, Bool.and_eq_true, Bool.or_eq_true, decide_eq_true_eq, Nat.add_sub_cancel] at h1
  have h2 : (nth .wlk l j).id < (nth .wlk l (j + 1)).id := h1.2.resolve_left (by omega)
  rcases Nat.lt_or_ge i j with h3 | h3
  ·exact Int.lt_trans (ih h3 (by omega)) h2
  ·have : i = j := by omega
   subst this
   exact h2
theorem srt_set {l : List Wlk} {i : Nat} {w : Wlk} (h : srt l) (hw : w.id = (nth .wlk l i).id) : srt (l.set i w) := by
 have hid : ∀ j, (nth .wlk (l.set i w) j).id = (nth .wlk l j).id := fun j => by
  by_cases hj : i = j
  ·subst hj
   by_cases hi : i < l.length
   ·rw [nth_set_eq .wlk hi, hw]
   ·rw [List.set_eq_of_length_le (by omega)]
  ·rw [nth_set_ne .wlk hj]
 intro a b hab hb
 rw [hid, hid]
 rw [List.length_set] at hb
 exact h a b hab hb
theorem filter_split {l : List Wlk} {i : Nat} (h : srt l) (hi : i < l.length) : wlkOut l (nth .wlk l i).id = l.take i ++ l.drop (i + 1) := by
 have h1 : ∀ p : Wlk → Bool, l.filter p = (l.take i ++ (nth .wlk l i :: l.drop (i + 1))).filter p := fun p => by
  rw [nth_lt .wlk l i hi, List.getElem_cons_drop, List.take_append_drop]
 unfold wlkOut
 rw [h1, List.filter_append, List.filter_cons]
 have ha : (l.take i).filter (fun w => decide (w.id ≠ (nth .wlk l i).id)) = l.take i := by
  rw [List.filter_eq_self]
  intro x hx
  obtain ⟨j, hj, rfl⟩ := List.getElem_of_mem hx
  rw [List.length_take] at hj
  have := h j i (by omega) hi
  rw [nth_lt .wlk l j (by omega)] at this
  simp only [List.getElem_take, ne_eq, decide_eq_true_eq]
  omega
 have hb : (l.drop (i + 1)).filter (fun w => decide (w.id ≠ (nth .wlk l i).id)) = l.drop (i + 1) := by
  rw [List.filter_eq_self]
  intro x hx
  obtain ⟨j, hj, rfl⟩ := List.getElem_of_mem hx
  rw [List.length_drop] at hj
  have := h i (i + 1 + j) (by omega) (by omega)
  rw [nth_lt .wlk l (i + 1 + j) (by omega)] at this
  simp only [List.getElem_drop, ne_eq, decide_eq_true_eq]
  omega
 rw [ha, hb]
 simp
theorem put_set {l : List Wlk} {i : Nat} {w : Wlk} (h : srt l) (hi : i < l.length) (hw : w.id = (nth .wlk l i).id) : wlkPut l w = l.set i w := by
 unfold wlkPut
 rw [hw, filter_split h hi]
 have hl : (l.take i ++ l.drop (i + 1)).length = l.length - 1 := by simp; omega
 have hpos : putPos (l.take i ++ l.drop (i + 1)) (nth .wlk l i).id = i := by
  have hb : ∀ j, j < i → above (nth .wlk l i).id (nth .wlk (l.take i ++ l.drop (i + 1)) j) = false := fun j hj => by
   have h1 : nth .wlk (l.take i ++ l.drop (i + 1)) j = nth .wlk l j := by
    rw [nth_lt .wlk _ j (by rw [hl]; omega), nth_lt .wlk l j (by omega), List.getElem_append_left (by rw [List.length_take]; omega), List.getElem_take]
   rw [h1]
   have := h j i hj hi
   simp only [above, decide_eq_false_iff_not]
   omega
  by_cases he : i + 1 < l.length
  ·have h1 : nth .wlk (l.take i ++ l.drop (i + 1)) i = nth .wlk l (i + 1) := by
    rw [nth_lt .wlk _ i (by rw [hl]; omega), nth_lt .wlk l (i + 1) he, List.getElem_append_right (by rw [List.length_take]; omega), List.getElem_drop]
    congr 1
    rw [List.length_take]; omega
   have h2 := h i (i + 1) (by omega) he
   have : idx (above (nth .wlk l i).id) (l.take i ++ l.drop (i + 1)) = i := by
    refine idx_at (by rw [hl]; omega) ?_ fun j hj => ?_
    ·rw [← nth_lt .wlk _ i (by rw [hl]; omega), h1]
     simpa [above] using h2
    ·rw [← nth_lt .wlk _ j (by rw [hl]; omega)]
     exact hb j hj
   unfold putPos
   rw [this, if_neg (by omega)]
   rfl
  ·have : idx (above (nth .wlk l i).id) (l.take i ++ l.drop (i + 1)) = -1 := by
    refine idx_none fun j hj => ?_
    rw [← nth_lt .wlk _ j hj]
    rw [hl] at hj
    exact hb j (by omega)
   unfold putPos
   rw [this, if_pos (by omega), hl]
   omega
 rw [hpos]
 unfold insL
 rw [List.take_append_of_le_length (by rw [List.length_take]; omega), List.take_take, Nat.min_self, List.drop_append_of_le_length (by rw [List.length_take]; omega)]
 rw [show (l.take i).drop i = [] from List.drop_eq_nil_of_le (by rw [List.length_take]; omega), List.nil_append, List.set_eq_take_append_cons_drop, if_pos hi]
 simp
theorem has_lt {l : List Wlk} {id : Int} (h : wlkHas l id = true) : (wlkPlace l id).toNat < l.length ∧ 0 ≤ wlkPlace l id := by
 simp only [wlkHas, decide_eq_true_eq] at h
 have := place_lt l id
 omega
theorem has_neg {l : List Wlk} {id : Int} : wlkHas l id = false ↔ wlkPlace l id < 0 := by
 simp only [wlkHas, decide_eq_false_iff_not]
 omega
theorem find_w {l : List Wlk} {id : Int} (h : wlkHas l id = true) : wlkFind l id = nth .wlk l (wlkPlace l id).toNat := by
 unfold wlkFind
 rw [if_pos (has_lt h).2]
theorem id_w {l : List Wlk} {id : Int} (h : wlkHas l id = true) : (nth .wlk l (wlkPlace l id).toNat).id = id := place_id (has_lt h).2
theorem put_w {l : List Wlk} {who : Int} {w : Wlk} (hs : srt l) (h : wlkHas l who = true) (hw : w.id = who) : wlkPut l w = l.set (wlkPlace l who).toNat w :=
 put_set hs (has_lt h).1 (by rw [hw, id_w h])
theorem place_w1 {l : List Wlk} {who x : Int} {a : Wlk} (h : wlkHas l who = true) (ha : a.id = who) : wlkPlace (l.set (wlkPlace l who).toNat a) x = wlkPlace l x := place_set (by rw [ha, id_w h])
theorem has_w1 {l : List Wlk} {who x : Int} {a : Wlk} (h : wlkHas l who = true) (ha : a.id = who) : wlkHas (l.set (wlkPlace l who).toNat a) x = wlkHas l x := by
 unfold wlkHas
 rw [place_w1 h ha]
theorem srt_w1 {l : List Wlk} {who : Int} {a : Wlk} (hs : srt l) (h : wlkHas l who = true) (ha : a.id = who) : srt (l.set (wlkPlace l who).toNat a) := srt_set hs (by rw [ha, id_w h])
theorem find_w1 {l : List Wlk} {who : Int} {a : Wlk} (h : wlkHas l who = true) (ha : a.id = who) : wlkFind (l.set (wlkPlace l who).toNat a) who = a := by
 rw [find_w (by rw [has_w1 h ha]; exact h), place_w1 h ha, nth_set_eq .wlk (has_lt h).1]
theorem put_w1 {l : List Wlk} {who : Int} {a w : Wlk} (hs : srt l) (h : wlkHas l who = true) (ha : a.id = who) (hw : w.id = who) : wlkPut (l.set (wlkPlace l who).toNat a) w = l.set (wlkPlace l who).toNat w := by
 rw [put_w (srt_w1 hs h ha) (by rw [has_w1 h ha]; exact h) hw, place_w1 h ha, List.set_set]
theorem ne_w {l : List Wlk} {who to : Int} (h : wlkHas l who = true) (ht : wlkHas l to = true) (hne : to ≠ who) : (wlkPlace l who).toNat ≠ (wlkPlace l to).toNat := by
 have h1 := (has_lt h).2
 have h2 := (has_lt ht).2
 exact place_ne (by omega) (by omega) hne
theorem find_t {l : List Wlk} {who to : Int} {a : Wlk} (h : wlkHas l who = true) (ht : wlkHas l to = true) (hne : to ≠ who) (ha : a.id = who) : wlkFind (l.set (wlkPlace l who).toNat a) to = nth .wlk l (wlkPlace l to).toNat := by
 rw [find_w (by rw [has_w1 h ha]; exact ht), place_w1 h ha, nth_set_ne .wlk (ne_w h ht hne)]
theorem put_t {l : List Wlk} {who to : Int} {a v : Wlk} (hs : srt l) (h : wlkHas l who = true) (ht : wlkHas l to = true) (ha : a.id = who) (hv : v.id = to) : wlkPut (l.set (wlkPlace l who).toNat a) v = (l.set (wlkPlace l who).toNat a).set (wlkPlace l to).toNat v := by
 rw [put_w (srt_w1 hs h ha) (by rw [has_w1 h ha]; exact ht) hv, place_w1 h ha]
theorem place_w2 {l : List Wlk} {who to x : Int} {a b : Wlk} (h : wlkHas l who = true) (ht : wlkHas l to = true) (ha : a.id = who) (hb : b.id = to) : wlkPlace ((l.set (wlkPlace l who).toNat a).set (wlkPlace l to).toNat b) x = wlkPlace l x := by
 have h2 : wlkHas (l.set (wlkPlace l who).toNat a) to = true := by rw [has_w1 h ha]; exact ht
 have h3 := place_w1 (x := x) h2 hb
 rw [place_w1 h ha, place_w1 h ha] at h3
 exact h3
theorem has_w2 {l : List Wlk} {who to x : Int} {a b : Wlk} (h : wlkHas l who = true) (ht : wlkHas l to = true) (ha : a.id = who) (hb : b.id = to) : wlkHas ((l.set (wlkPlace l who).toNat a).set (wlkPlace l to).toNat b) x = wlkHas l x := by
 unfold wlkHas
 rw [place_w2 h ht ha hb]
theorem srt_w2 {l : List Wlk} {who to : Int} {a b : Wlk} (hs : srt l) (h : wlkHas l who = true) (ht : wlkHas l to = true) (ha : a.id = who) (hb : b.id = to) : srt ((l.set (wlkPlace l who).toNat a).set (wlkPlace l to).toNat b) := by
 have h2 : wlkHas (l.set (wlkPlace l who).toNat a) to = true := by rw [has_w1 h ha]; exact ht
 have h3 := srt_w1 (srt_w1 hs h ha) h2 hb
 rw [place_w1 h ha] at h3
 exact h3
theorem find_w2 {l : List Wlk} {who to : Int} {a b : Wlk} (h : wlkHas l who = true) (ht : wlkHas l to = true) (hne : to ≠ who) (ha : a.id = who) (hb : b.id = to) : wlkFind ((l.set (wlkPlace l who).toNat a).set (wlkPlace l to).toNat b) who = a := by
 rw [find_w (by rw [has_w2 h ht ha hb]; exact h), place_w2 h ht ha hb, nth_set_ne .wlk (ne_w h ht hne).symm, nth_set_eq .wlk (has_lt h).1]
theorem put_w2 {l : List Wlk} {who to : Int} {a b w : Wlk} (hs : srt l) (h : wlkHas l who = true) (ht : wlkHas l to = true) (hne : to ≠ who) (ha : a.id = who) (hb : b.id = to) (hw : w.id = who) :
  wlkPut ((l.set (wlkPlace l who).toNat a).set (wlkPlace l to).toNat b) w = (l.set (wlkPlace l to).toNat b).set (wlkPlace l who).toNat w := by
 rw [put_w (srt_w2 hs h ht ha hb) (by rw [has_w2 h ht ha hb]; exact h) hw, place_w2 h ht ha hb, set_swap (ne_w h ht hne)]
theorem step_wrap0 {m : PMap} {c : Cll} {o : Ord} {i : Nat} (h : cllOk m c = true) (hi : i < c.wlks.length) (hd : o.dest = 0) : IntKind.i64.wrap ((nth .wlk c.wlks i).pos - 1) = (nth .wlk c.wlks i).pos + (2 * o.dest - 1) := by
 have h1 := cllOk_wlk h hi
 rw [wrap_id (by omega) (by omega)]
 omega
theorem step_wrap1 {m : PMap} {c : Cll} {o : Ord} {i : Nat} (h : cllOk m c = true) (hi : i < c.wlks.length) (ho : ordOk o = true) (hk : o.kind = 1) (hd : ¬ o.dest = 0) : IntKind.i64.wrap ((nth .wlk c.wlks i).pos + 1) = (nth .wlk c.wlks i).pos + (2 * o.dest - 1) := by
 have h1 := cllOk_wlk h hi
 rw [ordOk_iff] at ho
 rw [wrap_id (by omega) (by omega)]
 omega
theorem has_out (l : List Wlk) (id : Int) : wlkHas (wlkOut l id) id = false := by
 rw [has_neg]
 have : idx (isId id) (wlkOut l id) = -1 := by
  refine idx_none fun j hj => ?_
  have h1 : ∀ w ∈ wlkOut l id, isId id w = false := fun w hw => by
   simp only [wlkOut, List.mem_filter, decide_eq_true_eq] at hw
   simpa [isId] using hw.2
  exact h1 _ (List.getElem_mem hj)
 unfold wlkPlace
 rw [this]
 omega
theorem srt_len {l : List Wlk} (h : srt l) (h1 : ∀ i, i < l.length → 1 ≤ (nth .wlk l i).id ∧ (nth .wlk l i).id ≤ 9) : l.length ≤ 9 := by
 have hg : ∀ i, i < l.length → (i : Int) + 1 ≤ (nth .wlk l i).id := by
  intro i
  induction i with
  | zero => intro hi; have := (h1 0 hi).1; simpa using this
  | succ i ih =>
   intro hi
   have h2 := ih (by omega)
   have h3 := h i (i + 1) (by omega) hi
   push_cast
   omega
 rcases Nat.lt_or_ge 9 l.length with hlt | hge
 ·have h2 := hg (l.length - 1) (by omega)
  have h3 := (h1 (l.length - 1) (by omega)).2
  omega
 ·exact hge
theorem cllOk_srt {m : PMap} {c : Cll} (h : cllOk m c = true) : srt c.wlks := srt_of (cllOk_facts h).1
theorem cllOk_len {m : PMap} {c : Cll} (h : cllOk m c = true) : c.wlks.length ≤ 9 := srt_len (cllOk_srt h) fun i hi => (cllOk_wlk h hi).1
theorem recFormed_iff {r : Rec} : recFormed r = true ↔ ((r.kind = 1 ∧ ordOk r.ord = true ∧ r.side = 0 ∧ (r.pcl.n = 0 ∧ r.pcl.kind = 0 ∧ (r.pcl.wlk.id = 0 ∧ r.pcl.wlk.pos = 0 ∧ r.pcl.wlk.coins = 0 ∧ r.pcl.wlk.seq = 0 ∧ r.pcl.wlk.last = 0) ∧ r.pcl.coins = 0) ∧ r.n = 0) ∨
  (r.kind = 2 ∧ (r.side = 0 ∨ r.side = 1) ∧ (r.ord.who = 0 ∧ r.ord.seq = 0 ∧ r.ord.kind = 0 ∧ r.ord.dest = 0 ∧ r.ord.n = 0) ∧ r.n = 0) ∨
  (r.kind = 3 ∧ (r.side = 0 ∨ r.side = 1) ∧ 1 ≤ r.n ∧ r.n ≤ 5000 ∧ (r.ord.who = 0 ∧ r.ord.seq = 0 ∧ r.ord.kind = 0 ∧ r.ord.dest = 0 ∧ r.ord.n = 0) ∧ (r.pcl.n = 0 ∧ r.pcl.kind = 0 ∧ (r.pcl.wlk.id = 0 ∧ r.pcl.wlk.pos = 0 ∧ r.pcl.wlk.coins = 0 ∧ r.pcl.wlk.seq = 0 ∧ r.pcl.wlk.last = 0) ∧ r.pcl.coins = 0))) := by
 simp [recFormed, zeroO, zeroP, zeroW]
theorem nth_mem (t : RT) {l : List t.ty} {i : Nat} (h : i < l.length) : nth t l i ∈ l := by rw [nth_lt t l i h]; exact List.getElem_mem h
theorem mem_nth (t : RT) {l : List t.ty} {x : t.ty} (h : x ∈ l) : ∃ i, i < l.length ∧ nth t l i = x := by
 obtain ⟨i, hi, rfl⟩ := List.getElem_of_mem h
 exact ⟨i, hi, nth_lt t l i hi⟩
def ids (a b : Wlk) : Prop := a.id < b.id
theorem srt_pw {l : List Wlk} : srt l ↔ l.Pairwise ids := by
 rw [List.pairwise_iff_getElem]
 constructor
 ·intro h i j hi hj hij
  have := h i j hij hj
  rw [nth_lt .wlk l i hi, nth_lt .wlk l j hj] at this
  exact this
 ·intro h i j hij hj
  rw [nth_lt .wlk l i (by omega), nth_lt .wlk l j hj]
  exact h i j (by omega) hj hij
theorem wlkAll_iff {m : PMap} {l : List Wlk} : wlkAll m l = true ↔ (∀ w ∈ l, wlkOk m w = true) ∧ srt l := by
 constructor
 ·intro h
  refine ⟨fun w hw => ?_, srt_of h⟩
  obtain ⟨i, hi, rfl⟩ := mem_nth .wlk hw
  exact wlkAll_at h hi
 ·rintro ⟨h1, h2⟩
  unfold wlkAll
  rw [allTo_iff]
  intro i hi
  simp only [wlkAt, Bool.and_eq_true, Bool.or_eq_true, decide_eq_true_eq]
  refine ⟨h1 _ (nth_mem .wlk hi), ?_⟩
  rcases Nat.eq_zero_or_pos i with h0 | h0
  ·exact .inl h0
  ·exact .inr (h2 (i - 1) i (by omega) hi)
def sideB (m : PMap) (cell : Int) (l : List Pcl) (n i : Int) (s : Nat) : Prop :=
 pclListOk m l n = true ∧ 0 ≤ i ∧ i ≤ 5000 ∧ (plcSide m cell s = -1 → n = 0 ∧ i = 0) ∧ ∀ p ∈ l, p.kind = 1 → plcCell m p.wlk.pos = plcSide m cell s
theorem cllSide_iff {m : PMap} {c : Cll} {s : Nat} : cllSide m c s = true ↔ sideB m c.cell (nth .pcls c.outs s) (nth .int c.next s) (nth .int c.ins s) s := by
 simp only [cllSide, sideHead, sideB, Bool.and_eq_true, decide_eq_true_eq, allTo_iff, pclDest]
 constructor
 ·rintro ⟨⟨h1, h2, h3, h4⟩, h5⟩
  refine ⟨h1, h2, h3, h4, fun p hp hk => ?_⟩
  obtain ⟨i, hi, rfl⟩ := mem_nth .pcl hp
  exact h5 i hi hk
 ·rintro ⟨h1, h2, h3, h4, h5⟩
  exact ⟨⟨h1, h2, h3, h4⟩, fun i hi hk => h5 _ (nth_mem .pcl hi) hk⟩
theorem cllOk_iff {m : PMap} {c : Cll} : cllOk m c = true ↔ (∀ w ∈ c.wlks, wlkOk m w = true ∧ plcCell m w.pos = c.cell) ∧ srt c.wlks ∧ plcOk m = true ∧ 0 ≤ c.cell ∧ c.cell < m.cells ∧ 0 ≤ c.ground ∧ c.ground ≤ 900 ∧ c.outs.length = 2 ∧ c.next.length = 2 ∧ c.ins.length = 2 ∧
  ∀ s, s < 2 → sideB m c.cell (nth .pcls c.outs s) (nth .int c.next s) (nth .int c.ins s) s := by
 simp only [cllOk, cllHead, Bool.and_eq_true, decide_eq_true_eq, allTo_iff, wlkAll_iff, wlkIn, cllSide_iff]
 constructor
 ·rintro ⟨⟨⟨⟨h1, h2⟩, h3, h4, h5, h6, h7, h8, h9, h10⟩, h11⟩, h12⟩
  refine ⟨fun w hw => ⟨h1 w hw, ?_⟩, h2, h3, h4, h5, h6, h7, h8, h9, h10, h12⟩
  obtain ⟨i, hi, rfl⟩ := mem_nth .wlk hw
  exact h11 i hi
 ·rintro ⟨h1, h2, h3, h4, h5, h6, h7, h8, h9, h10, h12⟩
  exact ⟨⟨⟨⟨fun w hw => (h1 w hw).1, h2⟩, h3, h4, h5, h6, h7, h8, h9, h10⟩, fun i hi => (h1 _ (nth_mem .wlk hi)).2⟩, h12⟩
theorem pclListOk_iff {m : PMap} {l : List Pcl} {n : Int} : pclListOk m l n = true ↔ plcOk m = true ∧ 0 ≤ n ∧ n ≤ 5000 ∧ (l.length : Int) ≤ n ∧ ∀ i, i < l.length → pclOk m (nth .pcl l i) = true ∧ (nth .pcl l i).n = n - l.length + i := by
 simp [pclListOk, allTo_iff, pclAt, and_assoc]
theorem nth_app_lt (t : RT) {l r : List t.ty} {i : Nat} (h : i < l.length) : nth t (l ++ r) i = nth t l i := by
 rw [nth_lt t (l ++ r) i (by rw [List.length_append]; omega), nth_lt t l i h, List.getElem_append_left h]
theorem nth_app_eq (t : RT) {l : List t.ty} {x : t.ty} : nth t (l ++ [x]) l.length = x := by
 rw [nth_lt t (l ++ [x]) l.length (by simp)]
 simp
theorem nth_drop' (t : RT) {l : List t.ty} {k i : Nat} (h : k + i < l.length) : nth t (l.drop k) i = nth t l (k + i) := by
 rw [nth_lt t (l.drop k) i (by rw [List.length_drop]; omega), nth_lt t l (k + i) h, List.getElem_drop]
theorem pclListOk_snoc {m : PMap} {l : List Pcl} {n : Int} {p : Pcl} (h : pclListOk m l n = true) (hn : n < 5000) (hp : pclOk m p = true) (he : p.n = n) : pclListOk m (l ++ [p]) (n + 1) = true := by
 rw [pclListOk_iff] at h ⊢
 obtain ⟨h1, h2, h3, h4, h5⟩ := h
 have hl : (l ++ [p]).length = l.length + 1 := by simp
 refine ⟨h1, by omega, by omega, by rw [hl]; omega, fun i hi => ?_⟩
 rw [hl] at hi ⊢
 by_cases hlt : i < l.length
 ·rw [nth_app_lt .pcl hlt]
  have := h5 i hlt
  refine ⟨this.1, by rw [this.2]; omega⟩
 ·have : i = l.length := by omega
  subst this
  have he2 : nth .pcl (l ++ [p]) l.length = p := nth_app_eq .pcl
  rw [he2]
  exact ⟨hp, by rw [he]; omega⟩
theorem pclListOk_drop {m : PMap} {l : List Pcl} {n : Int} {k : Nat} (h : pclListOk m l n = true) (hk : k ≤ l.length) : pclListOk m (l.drop k) n = true := by
 rw [pclListOk_iff] at h ⊢
 obtain ⟨h1, h2, h3, h4, h5⟩ := h
 have hl : (l.drop k).length = l.length - k := List.length_drop
 refine ⟨h1, h2, h3, by rw [hl]; omega, fun i hi => ?_⟩
 rw [hl] at hi ⊢
 rw [nth_drop' .pcl (by omega)]
 have := h5 (k + i) (by omega)
 refine ⟨this.1, by rw [this.2]; omega⟩
theorem from_drop : ∀ (l : List Pcl) (b x : Int), (∀ i, i < l.length → (nth .pcl l i).n = b + i) → b ≤ x → pclFrom l x = l.drop (x - b).toNat
 | [], b, x, _, _ => by simp [pclFrom]
 | p :: r, b, x, h, hx => by
  have h0 : p.n = b := by simpa [nth] using h 0 (by simp)
  have hr : ∀ i, i < r.length → (nth .pcl r i).n = (b + 1) + i := fun i hi => by
   have := h (i + 1) (by simpa using hi)
   have he : nth .pcl (p :: r) (i + 1) = nth .pcl r i := by simp [nth]
   rw [he] at this
   rw [this]
   omega
  by_cases hlt : b < x
  ·have ih := from_drop r (b + 1) x hr (by omega)
   have e1 : (x - b).toNat = (x - (b + 1)).toNat + 1 := by omega
   rw [e1, List.drop_succ_cons, ← ih]
   simp only [pclFrom]
   rw [List.filter_cons_of_neg]
   simp; omega
  ·have e1 : (x - b).toNat = 0 := by omega
   rw [e1, List.drop_zero]
   unfold pclFrom
   rw [List.filter_eq_self]
   intro q hq
   obtain ⟨i, hi, rfl⟩ := mem_nth .pcl hq
   rw [h i hi]
   simp; omega
theorem pclFrom_drop {m : PMap} {l : List Pcl} {n x : Int} (h : pclListOk m l n = true) (hx : n - l.length ≤ x) : pclFrom l x = l.drop (x - (n - l.length)).toNat :=
 from_drop l (n - l.length) x (fun i hi => (((pclListOk_iff.1 h).2.2.2.2 i hi).2)) hx
theorem srt_filter {l : List Wlk} (h : srt l) (p : Wlk → Bool) : srt (l.filter p) := by
 rw [srt_pw] at *
 exact h.filter p
theorem put_pw {l : List Wlk} {w : Wlk} (h : srt l) (hn : ∀ x ∈ l, x.id ≠ w.id) : srt (insL l (putPos l w.id) [w]) := by
 have hle := putPos_le l w.id
 have h1 : ∀ x ∈ l.take (putPos l w.id), x.id < w.id := fun x hx => by
  have hxl := List.mem_of_mem_take hx
  obtain ⟨j, hj, rfl⟩ := List.getElem_of_mem hx
  rw [List.length_take] at hj
  have := (allTo_iff _ _).1 (nab_pos hle (Nat.lt_irrefl (putPos l w.id))) j (by omega)
  rw [List.getElem_take] at hxl ⊢
  simp only [nab, above, Bool.not_eq_true', decide_eq_false_iff_not] at this
  rw [nth_lt .wlk l j (by omega)] at this
  have := hn _ hxl
  omega
 have h2 : ∀ x ∈ l.drop (putPos l w.id), w.id < x.id := fun x hx => by
  obtain ⟨j, hj, rfl⟩ := List.getElem_of_mem hx
  rw [List.length_drop] at hj
  rcases idx_cases (above w.id) l with ⟨h3, _⟩ | ⟨i, hi, h3, h4, _⟩
  ·unfold putPos at hj
   rw [h3] at hj
   simp at hj
  ·have he : putPos l w.id = i := by
    unfold putPos
    rw [h3, if_neg (by omega)]
    rfl
   simp only [above, decide_eq_true_eq] at h4
   rw [List.getElem_drop]
   simp only [he]
   rcases Nat.eq_zero_or_pos j with h0 | h0
   ·subst h0; exact h4
   ·have := h i (i + j) (by omega) (by omega)
    rw [nth_lt .wlk l i hi, nth_lt .wlk l (i + j) (by omega)] at this
    omega
 rw [srt_pw] at h ⊢
 unfold insL
 rw [List.pairwise_append]
 refine ⟨h.sublist (List.take_sublist _ _), ?_, fun a ha b hb => ?_⟩
 ·simp only [List.cons_append, List.nil_append, List.pairwise_cons]
  exact ⟨fun b hb => h2 b hb, h.sublist (List.drop_sublist _ _)⟩
 ·simp only [List.cons_append, List.nil_append, List.mem_cons] at hb
  rcases hb with rfl | hb
  ·exact h1 a ha
  ·exact Int.lt_trans (h1 a ha) (h2 b hb)
theorem mem_insL {α : Type} {l m : List α} {n : Nat} {x : α} (h : x ∈ insL l n m) : x ∈ l ∨ x ∈ m := by
 simp only [insL, List.mem_append] at h
 rcases h with h | h | h
 ·exact .inl (List.mem_of_mem_take h)
 ·exact .inr h
 ·exact .inl (List.mem_of_mem_drop h)
theorem out_mem {l : List Wlk} {id : Int} {x : Wlk} (h : x ∈ wlkOut l id) : x ∈ l ∧ x.id ≠ id := by
 simpa [wlkOut] using h
theorem put_srt {l : List Wlk} {w : Wlk} (h : srt l) : srt (wlkPut l w) := put_pw (srt_filter h _) fun x hx => (out_mem hx).2
theorem put_mem {l : List Wlk} {w x : Wlk} (h : x ∈ wlkPut l w) : x ∈ l ∨ x = w := by
 rcases mem_insL h with h | h
 ·exact .inl (out_mem h).1
 ·exact .inr (by simpa using h)
theorem set_mem {l : List Wlk} {i : Nat} {w x : Wlk} (h : x ∈ l.set i w) : x ∈ l ∨ x = w := List.mem_or_eq_of_mem_set h
theorem set_ok {m : PMap} {c : Cll} {i : Nat} {w : Wlk} {g : Int} (h : cllOk m c = true) (hw : w.id = (nth .wlk c.wlks i).id) (hok : wlkOk m w = true) (hp : plcCell m w.pos = c.cell) (hg : 0 ≤ g ∧ g ≤ 900) : cllOk m ⟨c.cell, c.wlks.set i w, g, c.outs, c.next, c.ins⟩ = true := by
 rw [cllOk_iff] at h ⊢
 obtain ⟨h1, h2, h3, h4, h5, _, _, h8⟩ := h
 refine ⟨fun x hx => ?_, srt_set h2 hw, h3, h4, h5, hg.1, hg.2, h8⟩
 rcases set_mem hx with hx | rfl
 ·exact h1 x hx
 ·exact ⟨hok, hp⟩
theorem lt5000 {x : Int} (h : x ≤ 5000) (h2 : ¬ x = 5000) : x < 5000 := by omega
theorem le4999 {x : Int} (h : x ≤ 5000) (h2 : ¬ x = 5000) : x ≤ 4999 := by omega
theorem le_succ {a b : Int} (h : a = b) (h2 : a ≤ 4999) : b + 1 ≤ 5000 := by omega
theorem nn_succ {b : Int} (h : 0 ≤ b) : 0 ≤ b + 1 := by omega
theorem send_side {m : PMap} {c : Cll} {s : Nat} {p : Pcl} (h : cllOk m c = true) (hs : s < 2) (hn : ¬ nth .int c.next s = 5000) (hp : pclOk m ⟨nth .int c.next s, p.kind, p.wlk, p.coins⟩ = true) (hsd : ¬ plcSide m c.cell s = -1) (hk : p.kind = 1 → plcCell m p.wlk.pos = plcSide m c.cell s) :
  (sendOuts c s p).length = 2 ∧ (sendNext c s).length = 2 ∧ ∀ s', s' < 2 → sideB m c.cell (nth .pcls (sendOuts c s p) s') (nth .int (sendNext c s) s') (nth .int c.ins s') s' := by
 have hside := cllOk_side h hs
 rw [cllOk_iff] at h
 obtain ⟨_, _, _, _, _, _, _, ho, hnx, hi, hsb⟩ := h
 refine ⟨by simp [sendOuts, ho], by simp [sendNext, hnx], fun s' hs' => ?_⟩
 have hb := hsb s' hs'
 unfold sendOuts sendNext
 by_cases he : s = s'
 ·subst he
  rw [nth_set_eq .pcls (by omega), nth_set_eq .int (by omega)]
  obtain ⟨b1, b2, b3, b4, b5⟩ := hb
  refine ⟨pclListOk_snoc b1 (lt5000 hside.1.2 hn) hp rfl, b2, b3, fun hh => absurd hh hsd, fun q hq hqk => ?_⟩
  ·simp only [List.mem_append, List.mem_singleton] at hq
   rcases hq with hq | rfl
   ·exact b5 q hq hqk
   ·exact hk hqk
 ·rw [nth_set_ne .pcls he, nth_set_ne .int he]
  exact hb
theorem edge_side {m : PMap} {p d : Int} (hd : d = 0 ∨ d = 1) (h1 : ¬ plcCell m (p + (2 * d - 1)) = -1) (h0 : ¬ plcCell m p = -1) (h2 : ¬ plcCell m (p + (2 * d - 1)) = plcCell m p) : plcCell m (p + (2 * d - 1)) = plcSide m (plcCell m p) d ∧ ¬ plcSide m (plcCell m p) d = -1 := by
 obtain ⟨g1, g2, g3, g4⟩ := plcCell_ne h1
 obtain ⟨_, k2, k3, k4⟩ := plcCell_ne h0
 have hok := g1
 rw [plcOk_iff] at g1
 obtain ⟨c, w⟩ := m
 simp only at *
 have hw : w = 2 ∨ w = 3 ∨ w = 4 ∨ w = 5 ∨ w = 6 ∨ w = 7 ∨ w = 8 := by omega
 rw [g4, k4] at h2
 rw [g4, k4]
 unfold plcSide
 simp only [hok, true_and]
 clear g4 k4 h1 h0
 rcases hw with rfl | rfl | rfl | rfl | rfl | rfl | rfl <;> rcases hd with rfl | rfl <;> refine ⟨?_, ?_⟩ <;> (repeat' split) <;> omega
theorem cllDo_ok {m : PMap} {c : Cll} {o : Ord} (h : cllOk m c = true) (ho : ordOk o = true) : cllOk m (cllDo m c o).c = true := by
 have hoi := ordOk_iff.1 ho
 unfold cllDo
 split
 ·exact h
 rename_i hneg
 have hlt := place_ge hneg
 have hid := place_id (l := c.wlks) (id := o.who) (by omega)
 generalize hi : (wlkPlace c.wlks o.who).toNat = i at *
 have hwb := cllOk_wlk h hlt
 have hwok := (cllOk_iff.1 h).1 _ (nth_mem .wlk hlt)
 have hwi := wlkOk_iff.1 hwok.1
 have hf := cllOk_facts h
 simp only
 generalize hw : nth .wlk c.wlks i = w at *
 split
 ·exact h
 split
 ·exact h
 rename_i hs1 hs2
 have stay : ∀ (pos coins last g : Int), plcCell m pos = c.cell → 0 ≤ coins ∧ coins ≤ 99 → 0 ≤ last ∧ last ≤ 9 → 0 ≤ g ∧ g ≤ 900 → cllOk m ⟨c.cell, c.wlks.set i ⟨w.id, pos, coins, o.seq, last⟩, g, c.outs, c.next, c.ins⟩ = true := by
  intro pos coins last g hp hc hl hg
  refine set_ok h (by rw [hw]) ?_ hp hg
  rw [wlkOk_iff]
  simp only
  exact ⟨hwi.1, hwi.2.1, by rw [hp]; omega, hc.1, hc.2, by omega, by omega, hl.1, hl.2⟩
 have hwc : plcCell m w.pos = c.cell := hwok.2
 have hco : 0 ≤ w.coins ∧ w.coins ≤ 99 := ⟨hwi.2.2.2.1, hwi.2.2.2.2.1⟩
 have hgr : 0 ≤ c.ground ∧ c.ground ≤ 900 := ⟨hf.2.2.2.2.1, hf.2.2.2.2.2.1⟩
 have fin : ∀ code, 0 ≤ code ∧ code ≤ 9 → cllOk m (cllFin c i ⟨w.id, w.pos, w.coins, o.seq, w.last⟩ c.ground code).c = true := fun code hc => stay _ _ _ _ hwc hco hc hgr
 unfold doKind
 split
 ·unfold doStep
  simp only
  split
  ·exact fin 2 (by omega)
  split
  ·rename_i h2
   exact stay _ _ _ _ h2 hco (by omega) hgr
  split
  ·exact fin 2 (by omega)
  rename_i e1 e2 e3
  have hd : o.dest = 0 ∨ o.dest = 1 := by omega
  obtain ⟨g1, g2⟩ := edge_side (m := m) (p := w.pos) hd e1 (by rw [hwc]; omega) (by rw [hwc]; exact e2)
  rw [hwc] at g1 g2
  have hdd : ((o.dest.toNat : Nat) : Int) = o.dest := by omega
  have hside := cllOk_side h (s := o.dest.toNat) (by omega)
  obtain ⟨s1, s2, s3⟩ := send_side (p := ⟨0, 1, ⟨w.id, w.pos + (2 * o.dest - 1), w.coins, o.seq, 1⟩, 0⟩) h (s := o.dest.toNat) (by omega) e3 (by
   rw [pclOk_iff]
   refine ⟨hf.2.1, hside.1.1, le4999 hside.1.2 e3, .inl ⟨rfl, ?_, rfl⟩⟩
   ·rw [wlkOk_iff]
    exact ⟨hwi.1, hwi.2.1, e1, hco.1, hco.2, by show 0 ≤ o.seq; omega, by show o.seq ≤ 900; omega, by show (0 : Int) ≤ 1; omega, by show (1 : Int) ≤ 9; omega⟩) (by rw [hdd]; exact g2) (fun _ => by rw [hdd]; exact g1)
  rw [cllOk_iff] at h ⊢
  obtain ⟨h1, h2, h3, h4, h5, h6, h7, h8, h9, h10, h11⟩ := h
  refine ⟨fun x hx => ?_, srt_filter (srt_set h2 (by rw [hw])) _, h3, h4, h5, h6, h7, s1, s2, h10, s3⟩
  obtain ⟨hx1, hx2⟩ := out_mem hx
  rcases set_mem hx1 with hx1 | rfl
  ·exact h1 x hx1
  ·exact absurd hid hx2
 split
 ·unfold doGive
  simp only
  split
  ·exact fin 4 (by omega)
  split
  ·exact fin 3 (by omega)
  split
  ·exact fin 5 (by omega)
  rename_i e1 e2 e3
  have hlj := place_ge e1
  have hne : o.dest ≠ o.who := by omega
  have hij := place_ne hneg e1 hne
  rw [hi] at hij
  generalize hj : (wlkPlace c.wlks o.dest).toNat = j at *
  have hvok := (cllOk_iff.1 h).1 _ (nth_mem .wlk hlj)
  have hvi := wlkOk_iff.1 hvok.1
  have h' := set_ok (i := j) (w := ⟨(nth .wlk c.wlks j).id, (nth .wlk c.wlks j).pos, (nth .wlk c.wlks j).coins + o.n, (nth .wlk c.wlks j).seq, (nth .wlk c.wlks j).last⟩) h rfl (by
   rw [wlkOk_iff]
   simp only
   exact ⟨hvi.1, hvi.2.1, hvi.2.2.1, by omega, by omega, hvi.2.2.2.2.2⟩) hvok.2 hgr
  refine set_ok (i := i) (w := ⟨w.id, w.pos, w.coins - o.n, o.seq, 1⟩) h' (by simp only; rw [nth_set_ne .wlk (Ne.symm hij), hw]) (by
   rw [wlkOk_iff]
   simp only
   exact ⟨hwi.1, hwi.2.1, hwi.2.2.1, by omega, by omega, by omega, by omega, by omega, by omega⟩) hwc hgr
 split
 ·unfold doDrop
  simp only
  split
  ·exact fin 3 (by omega)
  split
  ·exact fin 5 (by omega)
  exact stay w.pos (w.coins - o.n) 1 (c.ground + o.n) hwc (by omega) (by omega) (by omega)
 split
 ·unfold doPick
  simp only
  split
  ·exact fin 6 (by omega)
  split
  ·exact fin 5 (by omega)
  exact stay w.pos (w.coins + o.n) 1 (c.ground - o.n) hwc (by omega) (by omega) (by omega)
 split
 ·unfold doThrow
  simp only
  split
  ·exact fin 7 (by omega)
  split
  ·exact fin 3 (by omega)
  split
  ·exact fin 5 (by omega)
  rename_i e1 e2 e3
  have he : plcEdge m w.pos o.dest = true := by simpa using e1
  simp only [plcEdge, decide_eq_true_eq] at he
  have hdd : ((o.dest.toNat : Nat) : Int) = o.dest := by omega
  have hside := cllOk_side h (s := o.dest.toNat) (by omega)
  obtain ⟨s1, s2, s3⟩ := send_side (p := ⟨0, 2, ⟨0, 0, 0, 0, 0⟩, o.n⟩) h (s := o.dest.toNat) (by omega) e3 (by
   rw [pclOk_iff]
   exact ⟨hf.2.1, hside.1.1, le4999 hside.1.2 e3, .inr ⟨rfl, (show zeroW ⟨0, 0, 0, 0, 0⟩ = true by decide), (by show 1 ≤ o.n; omega), (by show o.n ≤ 9; omega)⟩⟩) (by rw [hdd, ← hwc]; exact he.1) (fun hk => by cases hk)
  have h' := stay w.pos (w.coins - o.n) 1 c.ground hwc (by omega) (by omega) hgr
  rw [cllOk_iff] at h' ⊢
  obtain ⟨h1, h2, h3, h4, h5, h6, h7, h8, h9, h10, h11⟩ := h'
  exact ⟨h1, h2, h3, h4, h5, h6, h7, s1, s2, h10, s3⟩
 ·exact fin 1 (by omega)
theorem cllRecv_ok {m : PMap} {c : Cll} {s : Nat} {p : Pcl} (h : cllOk m c = true) (hp : pclOk m p = true) (hs : ¬ plcSide m c.cell s = -1) : cllOk m (cllRecv m c s p).c = true := by
 have hs2 : s < 2 := by
  have := (plcSide_ne hs).2.2.2
  omega
 have hpc : 0 ≤ p.n ∧ p.n ≤ 4999 ∧ (p.kind = 1 ∧ wlkOk m p.wlk = true ∧ p.coins = 0 ∨ p.kind = 2 ∧ 1 ≤ p.coins ∧ p.coins ≤ 9) := by
  simp only [pclOk, decide_eq_true_eq] at hp
  refine ⟨hp.2.1, hp.2.2.1, hp.2.2.2.imp id fun h => ⟨h.1, h.2.2.1, h.2.2.2⟩⟩
 have hins : ¬ (¬ p.n = nth .int c.ins s) → (insNext c s).length = 2 ∧ ∀ s', s' < 2 → sideB m c.cell (nth .pcls c.outs s') (nth .int c.next s') (nth .int (insNext c s) s') s' := by
  intro hn
  obtain ⟨_, _, _, _, _, _, _, ho, hnx, hi, hsb⟩ := cllOk_iff.1 h
  refine ⟨by simp [insNext, hi], fun s' hs' => ?_⟩
  obtain ⟨b1, b2, b3, b4, b5⟩ := hsb s' hs'
  unfold insNext
  by_cases he : s = s'
  ·subst he
   rw [nth_set_eq .int (by omega)]
   exact ⟨b1, nn_succ b2, le_succ (by simpa using hn) hpc.2.1, fun hh => absurd hh hs, b5⟩
  ·rw [nth_set_ne .int he]
   exact ⟨b1, b2, b3, b4, b5⟩
 unfold cllRecv
 split
 ·exact h
 rename_i e1
 obtain ⟨i1, i2⟩ := hins (fun hh => e1 (.inl hh))
 split
 ·rw [cllOk_iff] at h ⊢
  obtain ⟨h1, h2, h3, h4, h5, h6, h7, h8, h9, h10, h11⟩ := h
  exact ⟨h1, h2, h3, h4, h5, by show 0 ≤ c.ground + p.coins; omega, by show c.ground + p.coins ≤ 900; omega, h8, h9, i1, i2⟩
 split
 ·exact h
 ·rename_i e2 e3
  have hw : wlkOk m p.wlk = true := by
   rcases hpc.2.2 with ⟨_, h2, _⟩ | ⟨h2, _⟩
   ·exact h2
   ·exact absurd h2 e2
  have hpos : plcCell m p.wlk.pos = c.cell := by
   rcases Decidable.em (plcCell m p.wlk.pos = c.cell) with h2 | h2
   ·exact h2
   ·exact absurd (.inr h2) e3
  rw [cllOk_iff] at h ⊢
  obtain ⟨h1, h2, h3, h4, h5, h6, h7, h8, h9, h10, h11⟩ := h
  refine ⟨fun x hx => ?_, put_srt h2, h3, h4, h5, h6, h7, h8, h9, i1, i2⟩
  rcases put_mem hx with hx | rfl
  ·exact h1 x hx
  ·exact ⟨hw, hpos⟩
theorem cllRel_ok {m : PMap} {c : Cll} {s : Nat} {n : Int} (h : cllOk m c = true) (hs : s < 2) : cllOk m (cllRel c s n).c = true := by
 unfold cllRel
 split
 ·exact h
 ·rename_i e1
  rw [cllOk_iff] at h ⊢
  obtain ⟨h1, h2, h3, h4, h5, h6, h7, h8, h9, h10, h11⟩ := h
  refine ⟨h1, h2, h3, h4, h5, h6, h7, by simp [relOuts, h8], h9, h10, fun s' hs' => ?_⟩
  obtain ⟨b1, b2, b3, b4, b5⟩ := h11 s' hs'
  simp only [relOuts]
  by_cases he : s = s'
  ·subst he
   rw [nth_set_eq .pcls (by omega)]
   have hle : ¬ (nth .int c.next s < n) ∧ ¬ (n ≤ nth .int c.next s - (nth .pcls c.outs s).length) := ⟨fun hh => e1 (.inl hh), fun hh => e1 (.inr hh)⟩
   have hd := pclFrom_drop (x := n) b1 (by have := hle.2; omega)
   refine ⟨?_, b2, b3, b4, fun p hp => b5 p ((List.mem_filter.1 hp).1)⟩
   rw [hd]
   have e2 : ¬ @LT.lt Int _ (nth .int c.next s) n := hle.1
   refine pclListOk_drop b1 ?_
   have e3 := (pclListOk_iff.1 b1).2.2.2.1
   have e4 : @LE.le Int _ ((nth .pcls c.outs s).length : Int) (nth .int c.next s) := e3
   generalize ((nth .pcls c.outs s).length) = L at *
   generalize (nth .int c.next s : Int) = N at *
   omega
  ·rw [nth_set_ne .pcls he]
   exact ⟨b1, b2, b3, b4, b5⟩
theorem cllApply_ok {m : PMap} {c : Cll} {r : Rec} (h : cllOk m c = true) (hr : logOk m r = true) : cllOk m (cllApply m c r).c = true := by
 simp only [logOk, decide_eq_true_eq] at hr
 obtain ⟨_, h2, h3⟩ := hr
 rw [recFormed_iff] at h2
 unfold cllApply
 split
 ·split
  ·exact cllDo_ok h (by
    rcases h2 with h2 | h2 | h2
    ·exact h2.2.1
    ·omega
    ·omega)
  ·exact h
 split
 ·exact h
 rename_i hk hsd
 have hss : (r.side.toNat : Int) = r.side := by omega
 split
 ·rename_i hk2
  exact cllRecv_ok h (h3 hk2) (by rw [hss]; exact hsd)
 ·exact cllRel_ok h (by omega)
end Go.Mo
namespace Go.Sx
def St.fgs (σ : St) : List Nat → St
 | [] => σ
 | k :: ks => (σ.fg k).fgs ks
end Go.Sx
namespace Go.Mo
open Go.Sx
def foldTo (m : PMap) (c : Cll) (l : List Rec) : Nat → Cll
 | 0 => c
 | k + 1 => (cllApply m (foldTo m c l k) (nth .rcd l k)).c
theorem foldTo_zero (m : PMap) (c : Cll) (l : List Rec) : foldTo m c l 0 = c := rfl
theorem foldTo_succ (m : PMap) (c : Cll) (l : List Rec) (k : Nat) : foldTo m c l (k + 1) = (cllApply m (foldTo m c l k) (nth .rcd l k)).c := rfl
def fitAt (m : PMap) (c : Cll) (l : List Rec) (k : Nat) : Bool := logOk m (nth .rcd l k) && (cllApply m (foldTo m c l k) (nth .rcd l k)).ok
def foldN (m : PMap) (c : Cll) (l : List Rec) : Nat := ((List.range l.length).find? fun k => !fitAt m c l k).getD l.length
def foldC (m : PMap) (c : Cll) (l : List Rec) : Cll := foldTo m c l (foldN m c l)
theorem fold_ok {m : PMap} {c : Cll} {l : List Rec} (h : cllOk m c = true) : ∀ {k : Nat}, allTo k (fitAt m c l) = true → cllOk m (foldTo m c l k) = true
 | 0, _ => h
 | k + 1, hk => by
  rw [allTo_succ, Bool.and_eq_true] at hk
  simp only [fitAt, Bool.and_eq_true] at hk
  exact cllApply_ok (fold_ok h hk.1) hk.2.1
theorem foldN_at {m : PMap} {c : Cll} {l : List Rec} {k : Nat} (hk : k < l.length) (h : allTo k (fitAt m c l) = true) (hf : fitAt m c l k = false) : foldN m c l = k := by
 unfold foldN
 have h1 : (List.range l.length).find? (fun k => !fitAt m c l k) = some k := List.find?_range_eq_some.2 ⟨by simp [hf], by simpa using hk, fun j hj => by simp [(allTo_iff _ _).1 h j hj]⟩
 rw [h1]
 rfl
theorem foldN_all {m : PMap} {c : Cll} {l : List Rec} {k : Nat} (hk : k = l.length) (h : allTo k (fitAt m c l) = true) : foldN m c l = k := by
 subst hk
 unfold foldN
 have h1 : (List.range l.length).find? (fun k => !fitAt m c l k) = none := List.find?_eq_none.2 fun j hj => by simpa using (allTo_iff _ _).1 h j (by simpa using hj)
 rw [h1]
 rfl
theorem foldN_fits (m : PMap) (c : Cll) (l : List Rec) : allTo (foldN m c l) (fitAt m c l) = true := by
 rw [allTo_iff]
 intro j hj
 unfold foldN at hj
 cases h : (List.range l.length).find? fun k => !fitAt m c l k with
 | none =>
  rw [h] at hj
  simp at hj
  have := List.find?_eq_none.1 h j (by simpa using hj)
  simpa using this
 | some k =>
  rw [h] at hj
  simp at hj
  have h2 := (List.find?_range_eq_some.1 h).2.2 j hj
  simpa using h2
theorem foldC_ok {m : PMap} {c : Cll} {l : List Rec} (h : cllOk m c = true) : cllOk m (foldC m c l) = true := fold_ok h (foldN_fits m c l)
theorem fresh_has {c : Cll} {o : Ord} (h : cllFresh c o = true) : wlkHas c.wlks o.who = true := by
 simp only [cllFresh, Bool.and_eq_true] at h
 exact h.1
theorem fresh_place {c : Cll} {o : Ord} (h : cllFresh c o = true) : ¬ wlkPlace c.wlks o.who < 0 ∧ (nth .wlk c.wlks (wlkPlace c.wlks o.who).toNat).seq < o.seq := by
 have h1 := fresh_has h
 have h2 := has_lt h1
 simp only [cllFresh, Bool.and_eq_true, decide_eq_true_eq] at h
 rw [find_w h1] at h
 exact ⟨by omega, h.2⟩
structure CN where
 c : Cll
 n : Int
def logFold (m : PMap) (c : Cll) (l : List Rec) : CN := if cllOk m c = true ∧ l.length ≤ 250 then ⟨foldC m c l, foldN m c l⟩ else ⟨zeroC, 0⟩
theorem logOk_do {m : PMap} {r : Rec} (h : logOk m r = true) (hk : r.kind = 1) : ordOk r.ord = true := by
 simp only [logOk, decide_eq_true_eq] at h
 have := recFormed_iff.1 h.2.1
 rcases this with h | h | h
 ·exact h.2.1
 ·omega
 ·omega
theorem logOk_in {m : PMap} {r : Rec} (h : logOk m r = true) (hk : r.kind = 2) : pclOk m r.pcl = true := by
 simp only [logOk, decide_eq_true_eq] at h
 exact h.2.2 hk
def small (b : List Wlk) (d : List (List Pcl)) : Prop := b.length ≤ 1000 ∧ ∀ i, (nth .pcls d i).length ≤ 5000
theorem small_ok {m : PMap} {c : Cll} (h : cllOk m c = true) : small c.wlks c.outs := by
 refine ⟨Nat.le_trans (cllOk_len h) (by decide), fun i => ?_⟩
 have ho := (cllOk_facts h).2.2.2.2.2.2.1
 by_cases hi : i < 2
 ·have := cllOk_side h hi
  have h1 : ((nth .pcls c.outs i).length : Int) ≤ 5000 := Int.le_trans this.2.2.1 this.1.2
  omega
 ·have : nth .pcls c.outs i = [] := by simp [nth, List.getD, RT.dflt, List.getElem?_eq_none (show c.outs.length ≤ i by omega)]
  rw [this]
  exact Nat.zero_le _
theorem small_nil {b : List Wlk} (h : b.length ≤ 1000) : small b [] := ⟨h, fun i => by simp [nth, RT.dflt]⟩
theorem small_two {b : List Wlk} (h : b.length ≤ 1000) : small b [[], []] := ⟨h, fun i => by
 match i with
 | 0 => simp [nth]
 | 1 => simp [nth]
 | (n + 2) => simp [nth, RT.dflt]⟩
theorem small_apply {m : PMap} {c : Cll} {r : Rec} (h : (cllApplyX m c r).ok = true) : small (cllApplyX m c r).c.wlks (cllApplyX m c r).c.outs := by
 unfold cllApplyX at *
 split at h
 ·rename_i hh
  rw [if_pos hh]
  exact small_ok (cllApply_ok hh.1 hh.2)
 ·cases h
end Go.Mo
