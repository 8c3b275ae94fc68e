/-
  Plain models of the program's functions, with no program in sight: a0T, walkers.
-/
import Derived.Test.YtkclfaldmghkeaaGreatS4e
import Derived.Test.YtkclfaldmghkeaaGreatS5
set_option linter.unusedVariables false
set_option linter.unusedSimpArgs false
namespace Go.Mo
open Go.Sx
theorem okI {n : Int} (h : OkA (.int .i64 fun _ => n)) : -9223372036854775808 ≤ n ∧ n ≤ 9223372036854775807 := by
 cases h with
 | int _ _ h1 h2 => exact ⟨h1, h2⟩
theorem okL {t : RT} {l : List t.ty} (h : OkA (.list t fun _ => l)) (ht : t.N2 = false := by rfl) : l.length ≤ 140737488355328 := by
 cases h with
 | list _ _ h1 _ =>
  exact Nat.le_trans (Nat.le_mul_of_pos_right l.length (b1U t ht)) h1.1
theorem okB {t : RT} {l : List t.ty} (h : OkA (.list t fun _ => l)) : l.length * t.bytes ≤ 140737488355328 := by
 cases h with
 | list _ _ h1 _ => exact h1.1
theorem Z7 {k : Nat} (h : 0 < k) (h2 : k ≤ 140737488355328) : IntKind.i64.wrap ((k : Int) - 1) = ((k - 1 : Nat) : Int) := by
 rw [e8 (by omega) (by omega)]; omega
theorem j5 {k : Nat} (h2 : k ≤ 140737488355328) : IntKind.i64.wrap ((k : Int) + 1) = ((k + 1 : Nat) : Int) := by
 rw [e8 (by omega) (by omega)]; omega
def l8 (k : Nat) (f : Nat → Bool) : Bool := (List.range k).all f
theorem m8 (f : Nat → Bool) : l8 0 f = true := rfl
theorem m7 (k : Nat) (f : Nat → Bool) : l8 (k + 1) f = (l8 k f && f k) := by
 simp [l8, List.range_succ]
theorem j9 (k : Nat) (f : Nat → Bool) : l8 k f = true ↔ ∀ i, i < k → f i = true := by
 simp [l8]
theorem s0 {k n : Nat} {f : Nat → Bool} (h : k < n) (hf : f k = false) : l8 n f = false := by
 cases ha : l8 n f with
 | false => rfl
 | true => rw [(j9 n f).1 ha k h] at hf; cases hf
theorem c3V {a b : Int} (h0 : 0 ≤ a) (h1 : a ≤ 9223372036854775807) (hb : 0 < b) : IntKind.i64.wrap (a.tdiv b) = a / b := by
 rw [Int.tdiv_eq_ediv_of_nonneg h0]
 have h2 : a / b ≤ a := Int.ediv_le_self b h0
 have h3 : 0 ≤ a / b := Int.ediv_nonneg h0 (by omega)
 exact e8 (by omega) (by omega)
def inR (n a b : Int) : Bool := decide (a ≤ n ∧ n ≤ b)
def n8 (m : PMap) : Bool := decide (2 ≤ m.cells ∧ m.cells ≤ 4 ∧ 2 ≤ m.width ∧ m.width ≤ 8)
def l6 (m : PMap) (p : Int) : Int := if n8 m = true ∧ 0 ≤ p ∧ p < m.cells * m.width then p / m.width else -1
def b6 (m : PMap) (c s : Int) : Int :=
 if n8 m = true ∧ 0 ≤ c ∧ c < m.cells then (if s = 0 ∧ 0 < c then c - 1 else if s = 1 ∧ c + 1 < m.cells then c + 1 else -1) else -1
def H4 (m : PMap) (p s : Int) : Bool :=
 decide (b6 m (l6 m p) s ≠ -1 ∧ p = (if s = 0 then l6 m p * m.width else l6 m p * m.width + m.width - 1))
theorem r6 {m : PMap} : n8 m = true ↔ 2 ≤ m.cells ∧ m.cells ≤ 4 ∧ 2 ≤ m.width ∧ m.width ≤ 8 := by simp [n8]
theorem a3w {m : PMap} (h : n8 m = true) : 4 ≤ m.cells * m.width ∧ m.cells * m.width ≤ 32 := by
 rw [r6] at h
 obtain ⟨h1, h2, h3, h4⟩ := h
 constructor
 ·have := Int.mul_le_mul h1 h3 (by omega) (by omega); omega
 ·have := Int.mul_le_mul h2 h4 (by omega) (by omega); omega
theorem F8 {m : PMap} {c s : Int} (h : b6 m c s ≠ -1) : n8 m = true ∧ 0 ≤ c ∧ c < m.cells ∧ (s = 0 ∧ 0 < c ∨ s = 1 ∧ c + 1 < m.cells) := by
 unfold b6 at h
 split at h
 ·rename_i h1
  refine ⟨h1.1, h1.2.1, h1.2.2, ?_⟩
  split at h
  ·exact .inl (by assumption)
  ·split at h
   ·exact .inr (by assumption)
   ·exact absurd rfl h
 ·exact absurd rfl h
theorem K5 {m : PMap} {p : Int} (h : l6 m p ≠ -1) : n8 m = true ∧ 0 ≤ p ∧ p < m.cells * m.width ∧ l6 m p = p / m.width := by
 unfold l6 at h ⊢
 split at h
 ·rename_i h1
  rw [if_pos h1]
  exact ⟨h1.1, h1.2.1, h1.2.2, rfl⟩
 ·exact absurd rfl h
theorem b4L {m : PMap} {p : Int} (h : l6 m p ≠ -1) : 0 ≤ l6 m p * m.width ∧ l6 m p * m.width ≤ p := by
 obtain ⟨h1, h2, h3, h4⟩ := K5 h
 rw [r6] at h1
 rw [h4]
 have h5 : 0 ≤ p / m.width := Int.ediv_nonneg h2 (by omega)
 exact ⟨Int.mul_nonneg h5 (by omega), Int.ediv_mul_le p (by omega)⟩
theorem c8g {m : PMap} {p s : Int} (h : b6 m (l6 m p) s ≠ -1) : l6 m (p + (2 * s - 1)) ≠ l6 m p ↔ p = (if s = 0 then l6 m p * m.width else l6 m p * m.width + m.width - 1) := by
 obtain ⟨h1, h2, h3, h4⟩ := F8 h
 have h5 : l6 m p ≠ -1 := by omega
 obtain ⟨_, h6, h7, h8⟩ := K5 h5
 rw [r6] at h1
 obtain ⟨c, w⟩ := m
 simp only at *
 have hw : w = 2 ∨ w = 3 ∨ w = 4 ∨ w = 5 ∨ w = 6 ∨ w = 7 ∨ w = 8 := by omega
 have hok : n8 ⟨c, w⟩ = true := by rw [r6]; exact h1
 have hc : ∀ q, l6 ⟨c, w⟩ q = if 0 ≤ q ∧ q < c * w then q / w else -1 := fun q => by simp [l6, hok]
 rw [h8] at h2 h3 h4 ⊢
 rw [hc]
 clear h hok hc h5 h8
 rcases hw with rfl | rfl | rfl | rfl | rfl | rfl | rfl <;> (rcases h4 with ⟨rfl, h4⟩ | ⟨rfl, h4⟩ <;> simp only [Int.reduceMul, Int.reduceSub, if_true, if_neg (show ¬ ((1 : Int) = 0) by decide)] <;> split <;> omega)
def a6l (w : Wlk) : Bool := decide (1 ≤ w.id ∧ w.id ≤ 9 ∧ 0 ≤ w.l7 ∧ w.l7 ≤ 99 ∧ 0 ≤ w.seq ∧ w.seq ≤ 900 ∧ 0 ≤ w.last ∧ w.last ≤ 9)
def O8 (m : PMap) (w : Wlk) : Bool := decide (1 ≤ w.id ∧ w.id ≤ 9 ∧ l6 m w.pos ≠ -1 ∧ 0 ≤ w.l7 ∧ w.l7 ≤ 99 ∧ 0 ≤ w.seq ∧ w.seq ≤ 900 ∧ 0 ≤ w.last ∧ w.last ≤ 9)
def a3L (m : PMap) (l : List Wlk) (i : Nat) : Bool := O8 m (nth .wlk l i) && (decide (i = 0) || decide ((nth .wlk l (i - 1)).id < (nth .wlk l i).id))
def y7 (m : PMap) (l : List Wlk) : Bool := l8 l.length (a3L m l)
theorem a8o {m : PMap} {l : List Wlk} {k : Nat} (h : k < l.length) (hw : O8 m (nth .wlk l k) = false) : y7 m l = false := s0 h (by simp [a3L, hw])
theorem a7o {m : PMap} {l : List Wlk} {k : Nat} (h : k < l.length) (h0 : 0 < k) (hw : (nth .wlk l k).id ≤ (nth .wlk l (k - 1)).id) : y7 m l = false := s0 h (by
 have : ¬ (nth .wlk l (k - 1)).id < (nth .wlk l k).id := by omega
 have h1 : ¬ k = 0 := by omega
 simp [a3L, this, h1])
def flt {α : Type} (p : α → Bool) (l : List α) (k : Nat) : List α := (l.take k).filter p
theorem a5S {α : Type} (p : α → Bool) (l : List α) : flt p l 0 = [] := by simp [flt]
theorem a8j {α : Type} (p : α → Bool) (l : List α) : flt p l l.length = l.filter p := by simp [flt]
theorem a5T {α : Type} (p : α → Bool) (l : List α) (k : Nat) : (flt p l k).length ≤ k := by
 unfold flt
 exact Nat.le_trans (List.length_filter_le _ _) (by simp; omega)
theorem P4 (t : RT) (p : t.ty → Bool) (l : List t.ty) (k : Nat) (h : k < l.length) : flt p l (k + 1) = if p (nth t l k) = true then flt p l k ++ [nth t l k] else flt p l k := by
 unfold flt
 rw [List.take_succ_eq_append_getElem h, List.filter_append, k9 t l k h]
 cases hp : p l[k] <;> simp [hp]
def B2 (l : List Wlk) (id : Int) : List Wlk := l.filter fun w => decide (w.id ≠ id)
def M4 (l : List Wlk) (id : Int) (k : Nat) : List Wlk := flt (fun w => decide (w.id ≠ id)) l k
theorem a3K (l : List Wlk) (id : Int) : M4 l id 0 = [] := a5S _ _
theorem a4I {l : List Wlk} {id : Int} {k : Nat} (h : k = l.length) : M4 l id k = B2 l id := by subst h; exact a8j _ _
theorem a4H (l : List Wlk) (id : Int) (k : Nat) : (M4 l id k).length ≤ k := a5T _ _ _
theorem a4G {l : List Wlk} {id : Int} {k : Nat} (h : k < l.length) (hn : (nth .wlk l k).id ≠ id) : M4 l id (k + 1) = M4 l id k ++ [nth .wlk l k] := by
 unfold M4
 rw [P4 .wlk _ _ _ h, if_pos (by simpa using hn)]
theorem a7n {l : List Wlk} {id : Int} {k : Nat} (h : k < l.length) (hn : (nth .wlk l k).id = id) : M4 l id (k + 1) = M4 l id k := by
 unfold M4
 rw [P4 .wlk _ _ _ h, if_neg (by simp [hn])]
def idx {α : Type} (p : α → Bool) (l : List α) : Int := match l.findIdx? p with
 | some i => (i : Int)
 | none => -1
theorem a9t {α : Type} {p : α → Bool} {l : List α} {k : Nat} (h : k < l.length) (hp : p l[k] = true) (hn : ∀ j (hj : j < k), p (l[j]'(by omega)) = false) : idx p l = k := by
 have : l.findIdx? p = some k := by
  rw [List.findIdx?_eq_some_iff_getElem]
  exact ⟨h, hp, fun j hj => by simp [hn j hj]⟩
 simp [idx, this]
theorem a1s {α : Type} {p : α → Bool} {l : List α} (hn : ∀ j (hj : j < l.length), p l[j] = false) : idx p l = -1 := by
 have : l.findIdx? p = none := by
  rw [List.findIdx?_eq_none_iff]
  intro x hx
  obtain ⟨j, hj, rfl⟩ := List.getElem_of_mem hx
  exact hn j hj
 simp [idx, this]
theorem C3 {α : Type} (p : α → Bool) (l : List α) : idx p l = -1 ∧ (∀ x ∈ l, p x = false) ∨ ∃ k, ∃ h : k < l.length, idx p l = (k : Int) ∧ p l[k] = true ∧ ∀ j (hj : j < k), p (l[j]'(by omega)) = false := by
 unfold idx
 cases hf : l.findIdx? p with
 | none =>
  rw [List.findIdx?_eq_none_iff] at hf
  exact .inl ⟨rfl, fun x hx => by simpa using hf x hx⟩
 | some k =>
  rw [List.findIdx?_eq_some_iff_getElem] at hf
  obtain ⟨h, h1, h2⟩ := hf
  exact .inr ⟨k, h, rfl, h1, fun j hj => by simpa using h2 j hj⟩
def isId (id : Int) (w : Wlk) : Bool := decide (w.id = id)
def j4 (l : List Wlk) (id : Int) : Int := idx (isId id) l
def nid (l : List Wlk) (id : Int) (j : Nat) : Bool := !isId id (nth .wlk l j)
theorem b4O {l : List Wlk} {id : Int} {k : Nat} (h : l8 k (nid l id) = true) (hk : k < l.length) (hi : (nth .wlk l k).id = id) : j4 l id = k := by
 rw [k9 .wlk l k hk] at hi
 refine a9t hk (by simp [isId, hi]) fun j hj => ?_
 have := (j9 k _).1 h j hj
 simp only [nid, Bool.not_eq_true'] at this
 rw [k9 .wlk l j (by omega)] at this
 exact this
theorem a8M {l : List Wlk} {id : Int} {k : Nat} (h : l8 k (nid l id) = true) (hk : k = l.length) : j4 l id = -1 := by
 subst hk
 refine a1s fun j hj => ?_
 have := (j9 _ _).1 h j hj
 simp only [nid, Bool.not_eq_true'] at this
 rw [k9 .wlk l j hj] at this
 exact this
theorem N1 (l : List Wlk) (id : Int) : -1 ≤ j4 l id ∧ j4 l id < l.length := by
 rcases C3 (isId id) l with ⟨h, _⟩ | ⟨k, hk, h, _⟩
 ·unfold j4; rw [h]; omega
 ·unfold j4; rw [h]; omega
theorem a5k {l : List Wlk} {id : Int} (h : 0 ≤ j4 l id) : (nth .wlk l (j4 l id).toNat).id = id := by
 rcases C3 (isId id) l with ⟨h', _⟩ | ⟨k, hk, h', h2, _⟩
 ·unfold j4 at h; omega
 ·unfold j4; rw [h']
  rw [Int.toNat_natCast, k9 .wlk l k hk]
  simpa [isId] using h2
def B3 (l : List Wlk) (id : Int) : Wlk := if 0 ≤ j4 l id then nth .wlk l (j4 l id).toNat else ⟨0, 0, 0, 0, 0⟩
def o9 (l : List Wlk) (id : Int) : Bool := decide (0 ≤ j4 l id)
def J6 (o : Ord) : Bool := decide (1 ≤ o.who ∧ o.who ≤ 9 ∧ 1 ≤ o.seq ∧ o.seq ≤ 900 ∧
 ((o.kind = 1 ∧ 0 ≤ o.dest ∧ o.dest ≤ 1 ∧ o.n = 0) ∨ (o.kind = 2 ∧ 1 ≤ o.dest ∧ o.dest ≤ 9 ∧ o.dest ≠ o.who ∧ 1 ≤ o.n ∧ o.n ≤ 9) ∨ ((o.kind = 3 ∨ o.kind = 4) ∧ o.dest = 0 ∧ 1 ≤ o.n ∧ o.n ≤ 9) ∨
  (o.kind = 5 ∧ 0 ≤ o.dest ∧ o.dest ≤ 1 ∧ 1 ≤ o.n ∧ o.n ≤ 9) ∨ (o.kind = 6 ∧ o.dest = 0 ∧ o.n = 0)))
def a2r (w : Wlk) : Bool := decide (w.id = 0 ∧ w.pos = 0 ∧ w.l7 = 0 ∧ w.seq = 0 ∧ w.last = 0)
def a6I (p : Pcl) : Bool := decide (0 ≤ p.n ∧ p.n ≤ 4999 ∧ (p.kind = 1 ∧ p.l7 = 0 ∨ p.kind = 2 ∧ a2r p.wlk = true ∧ 1 ≤ p.l7 ∧ p.l7 ≤ 9))
def H5 (m : PMap) (p : Pcl) : Bool := decide (n8 m = true ∧ 0 ≤ p.n ∧ p.n ≤ 4999 ∧ (p.kind = 1 ∧ O8 m p.wlk = true ∧ p.l7 = 0 ∨ p.kind = 2 ∧ a2r p.wlk = true ∧ 1 ≤ p.l7 ∧ p.l7 ≤ 9))
def a2n (m : PMap) (l : List Pcl) (next : Int) (i : Nat) : Bool := H5 m (nth .pcl l i) && decide ((nth .pcl l i).n = next - l.length + i)
def s4 (m : PMap) (l : List Pcl) (next : Int) : Bool := decide (n8 m = true ∧ 0 ≤ next ∧ next ≤ 5000 ∧ (l.length : Int) ≤ next) && l8 l.length (a2n m l next)
theorem a3Q {m : PMap} {l : List Pcl} {next : Int} {k : Nat} (h : k < l.length) (hw : H5 m (nth .pcl l k) = false) : s4 m l next = false := by
 have := s0 (f := a2n m l next) h (by simp [a2n, hw])
 simp [s4, this]
theorem a2K {m : PMap} {l : List Pcl} {next : Int} {k : Nat} (h : k < l.length) (hw : ¬ (nth .pcl l k).n = next - l.length + k) : s4 m l next = false := by
 have := s0 (f := a2n m l next) h (by simp [a2n, hw])
 simp [s4, this]
def x9 (l : List Pcl) (n : Int) : List Pcl := l.filter fun p => decide (n ≤ p.n)
def J1 (l : List Pcl) (n : Int) (k : Nat) : List Pcl := flt (fun p => decide (n ≤ p.n)) l k
theorem a2L (l : List Pcl) (n : Int) : J1 l n 0 = [] := a5S _ _
theorem a3T {l : List Pcl} {n : Int} {k : Nat} (h : k = l.length) : J1 l n k = x9 l n := by subst h; exact a8j _ _
theorem a3S (l : List Pcl) (n : Int) (k : Nat) : (J1 l n k).length ≤ k := a5T _ _ _
theorem a3R {l : List Pcl} {n : Int} {k : Nat} (h : k < l.length) (hn : n ≤ (nth .pcl l k).n) : J1 l n (k + 1) = J1 l n k ++ [nth .pcl l k] := by
 unfold J1
 rw [P4 .pcl _ _ _ h, if_pos (by simpa using hn)]
theorem a5n {l : List Pcl} {n : Int} {k : Nat} (h : k < l.length) (hn : (nth .pcl l k).n < n) : J1 l n (k + 1) = J1 l n k := by
 unfold J1
 rw [P4 .pcl _ _ _ h, if_neg (by simpa using hn)]
structure CllB (c : Cll) : Prop where
 w : c.wlks.length * 40 ≤ 140737488355328
 o : c.outs.length * 24 ≤ 140737488355328
 oi : ∀ i, i < c.outs.length → (nth .pcls c.outs i).length * 64 ≤ 140737488355328
 n : c.next.length * 8 ≤ 140737488355328
 i : c.ins.length * 8 ≤ 140737488355328
 cell : -9223372036854775808 ≤ c.cell ∧ c.cell ≤ 9223372036854775807
 ground : -9223372036854775808 ≤ c.ground ∧ c.ground ≤ 9223372036854775807
theorem b1o {c : Cll} (h : ∀ a ∈ (PT.row .cll).encA (fun _ => c), OkA a) : CllB c := by
 have h1 := okI (h _ (.head _))
 have h2 := okB (h _ (.tail _ (.head _)))
 have h3 := okI (h _ (.tail _ (.tail _ (.head _))))
 have h4 := h _ (.tail _ (.tail _ (.tail _ (.head _))))
 have h5 := okB (h _ (.tail _ (.tail _ (.tail _ (.tail _ (.head _))))))
 have h6 := okB (h _ (.tail _ (.tail _ (.tail _ (.tail _ (.tail _ (.head _)))))))
 refine ⟨h2, okB h4, fun i hi => ?_, h5, h6, h1, h3⟩
 cases h4 with
 | list _ _ _ g =>
  have := g i 0 _ hi rfl
  exact okB this
theorem a6p (t : RT) (l : List t.ty) (k : Nat) (h : k < l.length) : l.take (k + 1) = l.take k ++ [nth t l k] := by
 rw [List.take_succ_eq_append_getElem h, k9 t l k h]
def pre {α : Type} (l : List α) (k : Nat) : List α := l.take k
theorem X2 {α : Type} (l : List α) : pre l 0 = [] := by simp [pre]
theorem a0C {α : Type} {l : List α} {k : Nat} (h : k = l.length) : pre l k = l := by subst h; simp [pre]
theorem H3 (t : RT) {l : List t.ty} {k : Nat} (h : k < l.length) : pre l (k + 1) = pre l k ++ [nth t l k] := a6p t l k h
theorem a0B {α : Type} (l : List α) (k : Nat) : (pre l k).length ≤ k := by simp [pre]; omega
def a0D (m : PMap) (there : Int) (l : List Pcl) (i : Nat) : Bool := decide ((nth .pcl l i).kind = 1 → l6 m (nth .pcl l i).wlk.pos = there)
def R6 (m : PMap) (c : Cll) (s : Nat) : Bool := decide (s4 m (nth .pcls c.outs s) (nth .int c.next s) = true ∧ 0 ≤ nth .int c.ins s ∧ nth .int c.ins s ≤ 5000 ∧ (b6 m c.cell s = -1 → nth .int c.next s = 0 ∧ nth .int c.ins s = 0))
def I6 (m : PMap) (c : Cll) (s : Nat) : Bool := R6 m c s && l8 (nth .pcls c.outs s).length (a0D m (b6 m c.cell s) (nth .pcls c.outs s))
def a2k (m : PMap) (c : Cll) (i : Nat) : Bool := decide (l6 m (nth .wlk c.wlks i).pos = c.cell)
def W6 (m : PMap) (c : Cll) : Bool := decide (y7 m c.wlks = true ∧ n8 m = true ∧ 0 ≤ c.cell ∧ c.cell < m.cells ∧ 0 ≤ c.ground ∧ c.ground ≤ 900 ∧ c.outs.length = 2 ∧ c.next.length = 2 ∧ c.ins.length = 2)
def q9 (m : PMap) (c : Cll) : Bool := W6 m c && l8 c.wlks.length (a2k m c) && l8 2 (I6 m c)
theorem b0a {m : PMap} {c : Cll} {k : Nat} (h : k < c.wlks.length) (hw : ¬ l6 m (nth .wlk c.wlks k).pos = c.cell) : q9 m c = false := by
 have := s0 (f := a2k m c) h (by simp [a2k, hw])
 simp [q9, this]
theorem a9Z {m : PMap} {c : Cll} {k : Nat} (h : k < 2) (hw : I6 m c k = false) : q9 m c = false := by
 have := s0 (f := I6 m c) h hw
 simp [q9, this]
theorem a7Q {m : PMap} {c : Cll} {s k : Nat} (h : k < (nth .pcls c.outs s).length) (h1 : (nth .pcl (nth .pcls c.outs s) k).kind = 1) (hw : ¬ l6 m (nth .pcl (nth .pcls c.outs s) k).wlk.pos = b6 m c.cell s) : I6 m c s = false := by
 have := s0 (f := a0D m (b6 m c.cell s) (nth .pcls c.outs s)) h (by simp [a0D, h1, hw])
 simp [I6, this]
theorem b0w {m : PMap} {l : List Pcl} {n : Int} (h : s4 m l n = true) : (l.length : Int) ≤ n := by
 simp [s4] at h
 omega
theorem b0B {m : PMap} {c : Cll} {s : Nat} (h : R6 m c s = true) (hn : b6 m c.cell s = -1) : I6 m c s = true := by
 have h' := h
 simp only [R6, decide_eq_true_eq] at h'
 obtain ⟨h1, _, _, h4⟩ := h'
 have h5 := b0w h1
 have h6 : @Eq Int (nth .int c.next s) 0 := (h4 hn).1
 rw [h6] at h5
 have : (nth .pcls c.outs s).length = 0 := by omega
 simp [I6, h, this, m8]
def b8I (m : PMap) (c : Cll) (s k : Nat) : Prop := s < 2 ∧ W6 m c = true ∧ l8 c.wlks.length (a2k m c) = true ∧ l8 s (I6 m c) = true ∧ R6 m c s = true ∧ k ≤ (nth .pcls c.outs s).length ∧ l8 k (a0D m (b6 m c.cell s) (nth .pcls c.outs s)) = true
theorem a4A {m : PMap} {c : Cll} (h : q9 m c = true) : W6 m c = true ∧ l8 c.wlks.length (a2k m c) = true ∧ l8 2 (I6 m c) = true := by
 simpa [q9, and_assoc] using h
theorem n6 {m : PMap} {c : Cll} (h : q9 m c = true) : y7 m c.wlks = true ∧ n8 m = true ∧ 0 ≤ c.cell ∧ c.cell < m.cells ∧ 0 ≤ c.ground ∧ c.ground ≤ 900 ∧ c.outs.length = 2 ∧ c.next.length = 2 ∧ c.ins.length = 2 := by
 have := (a4A h).1
 simpa [W6] using this
theorem I8 {m : PMap} {w : Wlk} : O8 m w = true ↔ (1 ≤ w.id ∧ w.id ≤ 9 ∧ l6 m w.pos ≠ -1 ∧ 0 ≤ w.l7 ∧ w.l7 ≤ 99 ∧ 0 ≤ w.seq ∧ w.seq ≤ 900 ∧ 0 ≤ w.last ∧ w.last ≤ 9) := by simp [O8]
theorem a6m {m : PMap} {l : List Wlk} (h : y7 m l = true) {i : Nat} (hi : i < l.length) : O8 m (nth .wlk l i) = true := by
 have := (j9 _ _).1 h i hi
 simp [a3L] at this
 exact this.1
theorem b4K {m : PMap} {p : Int} (h : l6 m p ≠ -1) : 0 ≤ p ∧ p < 32 := by
 obtain ⟨h1, h2, h3, _⟩ := K5 h
 have := (a3w h1).2
 omega
theorem G7 {m : PMap} {c : Cll} (h : q9 m c = true) {i : Nat} (hi : i < c.wlks.length) :
  (1 ≤ (nth .wlk c.wlks i).id ∧ (nth .wlk c.wlks i).id ≤ 9) ∧ (0 ≤ (nth .wlk c.wlks i).pos ∧ (nth .wlk c.wlks i).pos < 32) ∧ (0 ≤ (nth .wlk c.wlks i).l7 ∧ (nth .wlk c.wlks i).l7 ≤ 99) ∧
   (0 ≤ (nth .wlk c.wlks i).seq ∧ (nth .wlk c.wlks i).seq ≤ 900) ∧ (0 ≤ (nth .wlk c.wlks i).last ∧ (nth .wlk c.wlks i).last ≤ 9) ∧ l6 m (nth .wlk c.wlks i).pos = c.cell := by
 obtain ⟨h1, h2, _⟩ := a4A h
 have h3 := I8.1 (a6m (n6 h).1 hi)
 have h4 := (j9 _ _).1 h2 i hi
 simp [a2k] at h4
 have h5 := b4K h3.2.2.1
 exact ⟨⟨h3.1, h3.2.1⟩, h5, ⟨h3.2.2.2.1, h3.2.2.2.2.1⟩, ⟨h3.2.2.2.2.2.1, h3.2.2.2.2.2.2.1⟩, h3.2.2.2.2.2.2.2, h4⟩
theorem C2 {m : PMap} {c : Cll} (h : q9 m c = true) {s : Nat} (hs : s < 2) :
  (0 ≤ nth .int c.next s ∧ nth .int c.next s ≤ 5000) ∧ (0 ≤ nth .int c.ins s ∧ nth .int c.ins s ≤ 5000) ∧ ((nth .pcls c.outs s).length : Int) ≤ nth .int c.next s ∧ s4 m (nth .pcls c.outs s) (nth .int c.next s) = true := by
 obtain ⟨_, _, h3⟩ := a4A h
 have h4 := (j9 _ _).1 h3 s hs
 simp only [I6, R6, Bool.and_eq_true, decide_eq_true_eq] at h4
 have h5 := h4.1.1
 simp only [s4, Bool.and_eq_true, decide_eq_true_eq] at h5
 exact ⟨⟨h5.1.2.1, h5.1.2.2.1⟩, ⟨h4.1.2.1, h4.1.2.2.1⟩, h5.1.2.2.2, h4.1.1⟩
theorem G6 {o : Ord} : J6 o = true ↔ (1 ≤ o.who ∧ o.who ≤ 9 ∧ 1 ≤ o.seq ∧ o.seq ≤ 900 ∧
 ((o.kind = 1 ∧ 0 ≤ o.dest ∧ o.dest ≤ 1 ∧ o.n = 0) ∨ (o.kind = 2 ∧ 1 ≤ o.dest ∧ o.dest ≤ 9 ∧ o.dest ≠ o.who ∧ 1 ≤ o.n ∧ o.n ≤ 9) ∨ ((o.kind = 3 ∨ o.kind = 4) ∧ o.dest = 0 ∧ 1 ≤ o.n ∧ o.n ≤ 9) ∨
  (o.kind = 5 ∧ 0 ≤ o.dest ∧ o.dest ≤ 1 ∧ 1 ≤ o.n ∧ o.n ≤ 9) ∨ (o.kind = 6 ∧ o.dest = 0 ∧ o.n = 0))) := by simp [J6]
theorem l9 (t : RT) {l : List t.ty} {i : Nat} {x : t.ty} (h : i < l.length) : nth t (l.set i x) i = x := by
 simp [nth, List.getD, h]
theorem n9 (t : RT) {l : List t.ty} {i j : Nat} {x : t.ty} (h : i ≠ j) : nth t (l.set i x) j = nth t l j := by
 simp [nth, List.getD, List.getElem?_set_ne h]
theorem B5 (t : RT) (l : Th (List t.ty)) (i : Th Int) (e : Th t.ty) (u : Unit) : y9 t l i e u = (l ()).set (i ()).toNat (e ()) := rfl
theorem E4 {l : List Wlk} {id : Int} (h : ¬ j4 l id < 0) : (j4 l id).toNat < l.length := by
 have := N1 l id
 omega
theorem a2J {l : List Wlk} {a b : Int} (ha : ¬ j4 l a < 0) (hb : ¬ j4 l b < 0) (h : b ≠ a) : (j4 l a).toNat ≠ (j4 l b).toNat := by
 intro he
 have h1 := a5k (l := l) (id := a) (by omega)
 have h2 := a5k (l := l) (id := b) (by omega)
 rw [he, h2] at h1
 exact h h1
theorem a1n {o : Ord} (h : J6 o = true) (h2 : o.kind = 2) : o.dest ≠ o.who := by
 rw [G6] at h
 omega
theorem a6u {m : PMap} {c : Cll} {o : Ord} {i : Nat} (h : q9 m c = true) (hi : i < c.wlks.length) (ho : J6 o = true) (hk : o.kind = 1) : IntKind.i64.wrap ((nth .wlk c.wlks i).pos + (2 * o.dest - 1)) = (nth .wlk c.wlks i).pos + (2 * o.dest - 1) := by
 have h1 := G7 h hi
 rw [G6] at ho
 exact e8 (by omega) (by omega)
theorem a4R {α : Type} {l : List α} {i j : Nat} {a b c : α} (h : i ≠ j) : ((l.set i a).set j b).set i c = (l.set j b).set i c := by
 rw [List.set_comm _ _ h, List.set_set]
theorem b1w {α : Type} {p : α → Bool} : ∀ {l k : List α}, l.map p = k.map p → idx p l = idx p k := by
 intro l k h
 have h2 : ∀ (l : List α), l.findIdx? p = (l.map p).findIdx? id := by
  intro l
  induction l with
  | nil => rfl
  | cons x r ih => simp only [List.map_cons, List.findIdx?_cons, id, ih]
 unfold idx
 rw [h2 l, h2 k, h]
theorem a5F {α β : Type} (f : α → β) {l : List α} {i : Nat} {x : α} (h : ∀ y, l[i]? = some y → f x = f y) : (l.set i x).map f = l.map f := by
 apply List.ext_getElem?
 intro j
 by_cases hj : i = j
 ·subst hj
  simp only [List.getElem?_map, List.getElem?_set_self']
  cases hy : l[i]? with
  | none => simp
  | some y => simp [h y hy]
 ·simp [List.getElem?_set_ne hj]
theorem a3x {l : List Wlk} {i : Nat} {w : Wlk} {id : Int} (h : w.id = (nth .wlk l i).id) : j4 (l.set i w) id = j4 l id := by
 unfold j4
 refine b1w (a5F _ fun y hy => ?_)
 have : nth .wlk l i = y := by simp [nth, List.getD, hy]
 rw [this] at h
 simp [isId, h]
structure CD where
 c : Cll
 code : Int
def D9 (c : Cll) (i : Nat) (w : Wlk) (g : Int) (code : Int) : CD := ⟨⟨c.cell, c.wlks.set i ⟨w.id, w.pos, w.l7, w.seq, code⟩, g, c.outs, c.next, c.ins⟩, code⟩
def A7 (c : Cll) (s : Nat) (p : Pcl) : List (List Pcl) := c.outs.set s (nth .pcls c.outs s ++ [⟨nth .int c.next s, p.kind, p.wlk, p.l7⟩])
def D8 (c : Cll) (s : Nat) : List Int := c.next.set s (nth .int c.next s + 1)
def V2 (m : PMap) (c : Cll) (i : Nat) (w : Wlk) (o : Ord) : CD :=
 if l6 m (w.pos + (2 * o.dest - 1)) = -1 then D9 c i w c.ground 2
 else if l6 m (w.pos + (2 * o.dest - 1)) = c.cell then D9 c i ⟨w.id, w.pos + (2 * o.dest - 1), w.l7, w.seq, w.last⟩ c.ground 1
 else if nth .int c.next o.dest.toNat = 5000 then D9 c i w c.ground 2
 else ⟨⟨c.cell, B2 (c.wlks.set i w) o.who, c.ground, A7 c o.dest.toNat ⟨0, 1, ⟨w.id, w.pos + (2 * o.dest - 1), w.l7, w.seq, 1⟩, 0⟩, D8 c o.dest.toNat, c.ins⟩, 1⟩
def V4 (c : Cll) (i : Nat) (w : Wlk) (o : Ord) : CD :=
 if j4 c.wlks o.dest < 0 then D9 c i w c.ground 4
 else if w.l7 < o.n then D9 c i w c.ground 3
 else if 99 < (nth .wlk c.wlks (j4 c.wlks o.dest).toNat).l7 + o.n then D9 c i w c.ground 5
 else
  let v := nth .wlk c.wlks (j4 c.wlks o.dest).toNat
  ⟨⟨c.cell, (c.wlks.set (j4 c.wlks o.dest).toNat ⟨v.id, v.pos, v.l7 + o.n, v.seq, v.last⟩).set i ⟨w.id, w.pos, w.l7 - o.n, w.seq, 1⟩, c.ground, c.outs, c.next, c.ins⟩, 1⟩
def V5 (c : Cll) (i : Nat) (w : Wlk) (o : Ord) : CD :=
 if w.l7 < o.n then D9 c i w c.ground 3 else if 900 < c.ground + o.n then D9 c i w c.ground 5 else D9 c i ⟨w.id, w.pos, w.l7 - o.n, w.seq, w.last⟩ (c.ground + o.n) 1
def V3 (c : Cll) (i : Nat) (w : Wlk) (o : Ord) : CD :=
 if c.ground < o.n then D9 c i w c.ground 6 else if 99 < w.l7 + o.n then D9 c i w c.ground 5 else D9 c i ⟨w.id, w.pos, w.l7 + o.n, w.seq, w.last⟩ (c.ground - o.n) 1
def O2 (m : PMap) (c : Cll) (i : Nat) (w : Wlk) (o : Ord) : CD :=
 if H4 m w.pos o.dest = false then D9 c i w c.ground 7
 else if w.l7 < o.n then D9 c i w c.ground 3
 else if nth .int c.next o.dest.toNat = 5000 then D9 c i w c.ground 5
 else ⟨⟨c.cell, c.wlks.set i ⟨w.id, w.pos, w.l7 - o.n, w.seq, 1⟩, c.ground, A7 c o.dest.toNat ⟨0, 2, ⟨0, 0, 0, 0, 0⟩, o.n⟩, D8 c o.dest.toNat, c.ins⟩, 1⟩
def L9 (m : PMap) (c : Cll) (i : Nat) (w : Wlk) (o : Ord) : CD :=
 if o.kind = 1 then V2 m c i w o
 else if o.kind = 2 then V4 c i w o
 else if o.kind = 3 then V5 c i w o
 else if o.kind = 4 then V3 c i w o
 else if o.kind = 5 then O2 m c i w o
 else D9 c i w c.ground 1
def E6 (m : PMap) (c : Cll) (o : Ord) : CD :=
 if j4 c.wlks o.who < 0 then ⟨c, 9⟩
 else
  let w := nth .wlk c.wlks (j4 c.wlks o.who).toNat
  if o.seq < w.seq then ⟨c, 8⟩
  else if o.seq = w.seq then ⟨c, w.last⟩
  else L9 m c (j4 c.wlks o.who).toNat ⟨w.id, w.pos, w.l7, o.seq, w.last⟩ o
def O7 : Cll := ⟨0, [], 0, [], [], []⟩
def P6 (id : Int) (w : Wlk) : Bool := decide (id < w.id)
def nab (l : List Wlk) (id : Int) (j : Nat) : Bool := !P6 id (nth .wlk l j)
def z8 (l : List Wlk) (id : Int) : Nat := if idx (P6 id) l < 0 then l.length else (idx (P6 id) l).toNat
def I7 (l : List Wlk) (w : Wlk) : List Wlk := insL (B2 l w.id) (z8 (B2 l w.id) w.id) [w]
theorem b6s (l : List Wlk) (id : Int) : -1 ≤ idx (P6 id) l ∧ idx (P6 id) l < l.length := by
 rcases C3 (P6 id) l with ⟨h, _⟩ | ⟨k, hk, h, _⟩ <;> rw [h] <;> omega
theorem a6F (l : List Wlk) (id : Int) : z8 l id ≤ l.length := by
 have := b6s l id
 unfold z8
 split <;> omega
theorem b6t {l : List Wlk} {id : Int} {k : Nat} (h : l8 k (nab l id) = true) (hk : k < l.length) (hi : id < (nth .wlk l k).id) : idx (P6 id) l = k := by
 rw [k9 .wlk l k hk] at hi
 refine a9t hk (by simp [P6, hi]) fun j hj => ?_
 have := (j9 k _).1 h j hj
 simp only [nab, Bool.not_eq_true'] at this
 rw [k9 .wlk l j (by omega)] at this
 exact this
theorem b8r {l : List Wlk} {id : Int} {k : Nat} (h : l8 k (nab l id) = true) (hk : k = l.length) : idx (P6 id) l = -1 := by
 subst hk
 refine a1s fun j hj => ?_
 have := (j9 _ _).1 h j hj
 simp only [nab, Bool.not_eq_true'] at this
 rw [k9 .wlk l j hj] at this
 exact this
def J5 (l : List Wlk) (w : Wlk) (k : Nat) : List Wlk := if z8 l w.id < k then insL (l.take k) (z8 l w.id) [w] else l.take k
def v7 (l : List Wlk) (w : Wlk) (k : Nat) : Bool := decide (z8 l w.id < k)
theorem b6U (l : List Wlk) (w : Wlk) : J5 l w 0 = [] := by simp [J5]
theorem c1o (l : List Wlk) (w : Wlk) (k : Nat) : (J5 l w k).length ≤ k + 1 := by
 unfold J5
 split
 ·simp [insL]; omega
 ·simp; omega
theorem b6V {l : List Wlk} {w : Wlk} {k : Nat} (h : v7 l w k = false) : (J5 l w k).length ≤ k := by
 simp only [v7, decide_eq_false_iff_not] at h
 unfold J5
 rw [if_neg h, List.length_take]
 omega
theorem a4d {l : List Wlk} {k : Nat} (h : k < l.length) : l.take (k + 1) = l.take k ++ [nth .wlk l k] := a6p .wlk l k h
theorem b4G {l : List Wlk} {w : Wlk} {k : Nat} (h : k < l.length) (hd : v7 l w k = true) : J5 l w (k + 1) = J5 l w k ++ [nth .wlk l k] := by
 simp only [v7, decide_eq_true_eq] at hd
 unfold J5
 rw [if_pos (by omega), if_pos hd, a4d h]
 simp only [insL]
 rw [List.take_append_of_le_length (by rw [List.length_take]; omega), List.drop_append_of_le_length (by rw [List.length_take]; omega)]
 simp
theorem b6W {l : List Wlk} {w : Wlk} {k : Nat} (h : k < l.length) (hd : v7 l w k = false) (hi : w.id < (nth .wlk l k).id) : z8 l w.id = k → J5 l w (k + 1) = J5 l w k ++ [w] ++ [nth .wlk l k] := by
 intro hp
 unfold J5
 rw [if_pos (by omega), if_neg (by omega), a4d h, hp]
 simp only [insL]
 rw [List.take_append_of_le_length (by rw [List.length_take]; omega), List.drop_append_of_le_length (by rw [List.length_take]; omega)]
 simp [List.take_take]
theorem b2A {l : List Wlk} {w : Wlk} {k : Nat} (h : k < l.length) (hp : ¬ z8 l w.id < k + 1) : J5 l w (k + 1) = J5 l w k ++ [nth .wlk l k] := by
 unfold J5
 rw [if_neg hp, if_neg (by omega), a4d h]
theorem b9L {l : List Wlk} {id : Int} {k : Nat} (hk : k ≤ l.length) : ¬ z8 l id < k → l8 k (nab l id) = true := by
 intro h
 rw [j9]
 intro j hj
 simp only [nab, Bool.not_eq_true']
 rcases C3 (P6 id) l with ⟨_, h2⟩ | ⟨i, hi, h1, h2, h3⟩
 ·rw [k9 .wlk l j (by omega)]
  exact h2 _ (List.getElem_mem _)
 ·unfold z8 at h
  rw [h1, if_neg (by omega)] at h
  rw [k9 .wlk l j (by omega)]
  exact h3 j (by omega)
theorem b4H {l : List Wlk} {w : Wlk} {k : Nat} (h : k < l.length) (hd : v7 l w k = false) (hi : w.id < (nth .wlk l k).id) : z8 l w.id = k := by
 simp only [v7, decide_eq_false_iff_not] at hd
 have := b6t (b9L (by omega) hd) h hi
 unfold z8
 rw [this, if_neg (by omega)]
 rfl
theorem b6Z {l : List Wlk} {w : Wlk} {k : Nat} (h : k < l.length) (hd : v7 l w k = false) (hi : ¬ w.id < (nth .wlk l k).id) : ¬ z8 l w.id < k + 1 := by
 simp only [v7, decide_eq_false_iff_not] at hd
 intro hlt
 have he : z8 l w.id = k := by omega
 rcases C3 (P6 w.id) l with ⟨h1, h2⟩ | ⟨i, hi', h1, h2, h3⟩
 ·unfold z8 at he
  rw [h1] at he
  simp at he
  omega
 ·unfold z8 at he
  rw [h1, if_neg (by omega)] at he
  have : i = k := by omega
  subst this
  rw [k9 .wlk l i h] at hi
  simp [P6] at h2
  exact hi h2
theorem a7x {l : List Wlk} {w : Wlk} {k : Nat} (h : k < l.length) (hd : v7 l w k = false) (hi : w.id < (nth .wlk l k).id) : J5 l w (k + 1) = J5 l w k ++ [w] ++ [nth .wlk l k] ∧ v7 l w (k + 1) = true := by
 have hp := b4H h hd hi
 exact ⟨b6W h hd hi hp, by simp [v7, hp]⟩
theorem a7w {l : List Wlk} {w : Wlk} {k : Nat} (h : k < l.length) (hd : v7 l w k = false) (hi : ¬ w.id < (nth .wlk l k).id) : J5 l w (k + 1) = J5 l w k ++ [nth .wlk l k] ∧ v7 l w (k + 1) = false := by
 have hp := b6Z h hd hi
 exact ⟨b2A h hp, by simp [v7]; omega⟩
theorem a7v {l : List Wlk} {w : Wlk} {k : Nat} (h : k < l.length) (hd : v7 l w k = true) : J5 l w (k + 1) = J5 l w k ++ [nth .wlk l k] ∧ v7 l w (k + 1) = true := by
 refine ⟨b4G h hd, ?_⟩
 simp only [v7, decide_eq_true_eq] at hd ⊢
 omega
theorem b6Y {l : List Wlk} {w : Wlk} {k : Nat} (h : k = l.length) (hd : v7 l w k = true) : J5 l w k = insL l (z8 l w.id) [w] := by
 simp only [v7, decide_eq_true_eq] at hd
 subst h
 unfold J5
 rw [if_pos hd]
 simp
theorem b6X {l : List Wlk} {w : Wlk} {k : Nat} (h : k = l.length) (hd : v7 l w k = false) : J5 l w k ++ [w] = insL l (z8 l w.id) [w] := by
 simp only [v7, decide_eq_false_iff_not] at hd
 have h2 := a6F l w.id
 have h3 : z8 l w.id = l.length := by omega
 subst h
 unfold J5
 rw [if_neg hd, h3]
 simp [insL]
theorem b0v {l : List Wlk} {w : Wlk} {k : Nat} (h : k < l.length) (hd : v7 l w k = false) (hi : w.id < (nth .wlk l k).id) : v7 l w (k + 1) = true := (a7x h hd hi).2
theorem b0u {l : List Wlk} {w : Wlk} {k : Nat} (h : k < l.length) (hd : v7 l w k = false) (hi : ¬ w.id < (nth .wlk l k).id) : v7 l w (k + 1) = false := (a7w h hd hi).2
theorem b0t {l : List Wlk} {w : Wlk} {k : Nat} (h : k < l.length) (hd : v7 l w k = true) : v7 l w (k + 1) = true := (a7v h hd).2
theorem b2B (l : List Wlk) (w : Wlk) : v7 l w 0 = false := by simp [v7]
theorem b0F (l : List Wlk) (w : Wlk) : I7 l w = insL (B2 l w.id) (z8 (B2 l w.id) w.id) [w] := rfl
theorem a1F (l : List Wlk) (id : Int) : (B2 l id).length ≤ l.length := List.length_filter_le _ _
theorem a8n (l : List Wlk) (w : Wlk) : (I7 l w).length ≤ l.length + 1 := by
 have := a1F l w.id
 rw [I7, a9s (a6F _ _)]
 simp; omega
def a0u (o : Ord) : Bool := decide (o.who = 0 ∧ o.seq = 0 ∧ o.kind = 0 ∧ o.dest = 0 ∧ o.n = 0)
def a2i (p : Pcl) : Bool := decide (p.n = 0 ∧ p.kind = 0 ∧ a2r p.wlk = true ∧ p.l7 = 0)
def a3u (r : Rec) : Bool := decide ((r.kind = 1 ∧ J6 r.ord = true ∧ r.side = 0 ∧ a2i r.pcl = true ∧ r.n = 0) ∨ (r.kind = 2 ∧ (r.side = 0 ∨ r.side = 1) ∧ a0u r.ord = true ∧ r.n = 0) ∨
 (r.kind = 3 ∧ (r.side = 0 ∨ r.side = 1) ∧ 1 ≤ r.n ∧ r.n ≤ 5000 ∧ a0u r.ord = true ∧ a2i r.pcl = true))
def D1 (m : PMap) (r : Rec) : Bool := decide (n8 m = true ∧ a3u r = true ∧ (r.kind = 2 → H5 m r.pcl = true))
theorem L5 {m : PMap} {p : Pcl} : H5 m p = true ↔ n8 m = true ∧ 0 ≤ p.n ∧ p.n ≤ 4999 ∧ (p.kind = 1 ∧ O8 m p.wlk = true ∧ p.l7 = 0 ∨ p.kind = 2 ∧ a2r p.wlk = true ∧ 1 ≤ p.l7 ∧ p.l7 ≤ 9) := by simp [H5]
theorem c1q {m : PMap} {p : Pcl} (h : H5 m p = true) : n8 m = true := by simp [H5] at h; exact h.1
def J3 (c : Cll) (o : Ord) : Bool := o9 c.wlks o.who && decide ((B3 c.wlks o.who).seq < o.seq)
def c5m (who seq : Int) (r : Rec) : Bool := decide (r.kind = 1 ∧ r.ord.who = who ∧ r.ord.seq = seq)
def a0l (l : List Rec) (who seq : Int) (k : Nat) : Nat := (flt (c5m who seq) l k).length
theorem a4z (l : List Rec) (who seq : Int) : a0l l who seq 0 = 0 := by simp [a0l, flt]
theorem a7f {l : List Rec} {who seq : Int} {k : Nat} (h : k < l.length) (hy : (nth .rcd l k).kind = 1 ∧ (nth .rcd l k).ord.who = who ∧ (nth .rcd l k).ord.seq = seq) : a0l l who seq (k + 1) = a0l l who seq k + 1 := by
 unfold a0l
 rw [P4 .rcd _ _ _ h, if_pos (by simpa [c5m] using hy)]
 simp
theorem a6b {l : List Rec} {who seq : Int} {k : Nat} (h : k < l.length) (hy : ¬ ((nth .rcd l k).kind = 1 ∧ (nth .rcd l k).ord.who = who ∧ (nth .rcd l k).ord.seq = seq)) : a0l l who seq (k + 1) = a0l l who seq k := by
 unfold a0l
 rw [P4 .rcd _ _ _ h, if_neg (by simpa [c5m] using hy)]
theorem a9Y (l : List Rec) (who seq : Int) (k : Nat) : a0l l who seq k ≤ k := a5T _ _ _
def S4 (l : List Rec) (who seq : Int) : Nat := a0l l who seq l.length
theorem a7H {l : List Rec} {who seq : Int} {k : Nat} (h : k = l.length) : a0l l who seq k = S4 l who seq := by subst h; rfl
structure CB where
 c : Cll
 ok : Bool
def C0 (c : Cll) (s : Nat) : List Int := c.ins.set s (nth .int c.ins s + 1)
def s7 (m : PMap) (c : Cll) (s : Nat) (p : Pcl) : CB :=
 if ¬ p.n = nth .int c.ins s ∨ 900 < c.ground + p.l7 then ⟨c, false⟩
 else if p.kind = 2 then ⟨⟨c.cell, c.wlks, c.ground + p.l7, c.outs, c.next, C0 c s⟩, true⟩
 else if 0 ≤ j4 c.wlks p.wlk.id ∨ ¬ l6 m p.wlk.pos = c.cell then ⟨c, false⟩
 else ⟨⟨c.cell, I7 c.wlks p.wlk, c.ground, c.outs, c.next, C0 c s⟩, true⟩
theorem c5G {m : PMap} {c : Cll} {p : Pcl} (h : q9 m c = true) (hp : H5 m p = true) : IntKind.i64.wrap (c.ground + p.l7) = c.ground + p.l7 := by
 have h1 := n6 h
 rw [L5] at hp
 exact e8 (by omega) (by omega)
theorem b9m {m : PMap} {c : Cll} {s : Nat} {p : Pcl} (h : (s7 m c s p).ok = false) : (s7 m c s p).c = c := by
 unfold s7 at *
 split at * <;> (try split at *) <;> (try split at *) <;> simp_all
def M1 (c : Cll) (s : Nat) (n : Int) : List (List Pcl) := c.outs.set s (x9 (nth .pcls c.outs s) n)
def D3 (c : Cll) (s : Nat) (n : Int) : CB :=
 if nth .int c.next s < n ∨ n ≤ nth .int c.next s - (nth .pcls c.outs s).length then ⟨c, false⟩ else ⟨⟨c.cell, c.wlks, c.ground, M1 c s n, c.next, c.ins⟩, true⟩
theorem c3T {c : Cll} {s : Nat} {n : Int} (h : (D3 c s n).ok = false) : (D3 c s n).c = c := by
 unfold D3 at *
 split at * <;> simp_all
theorem Q0 {m : PMap} {l : List Pcl} {n : Int} (h : s4 m l n = true) (h0 : 0 < l.length) : (nth .pcl l 0).n = n - l.length := by
 simp only [s4, Bool.and_eq_true] at h
 have := (j9 _ _).1 h.2 0 h0
 simp [a2n] at this
 exact this.2
structure AP where
 c : Cll
 code : Int
 ok : Bool
def j7 (m : PMap) (c : Cll) (r : Rec) : AP :=
 if r.kind = 1 then (if J3 c r.ord = true then ⟨(E6 m c r.ord).c, (E6 m c r.ord).code, true⟩ else ⟨c, 0, false⟩)
 else if b6 m c.cell r.side = -1 then ⟨c, 0, false⟩
 else if r.kind = 2 then ⟨(s7 m c r.side.toNat r.pcl).c, 0, (s7 m c r.side.toNat r.pcl).ok⟩
 else ⟨(D3 c r.side.toNat r.n).c, 0, (D3 c r.side.toNat r.n).ok⟩
def J4 (m : PMap) (c : Cll) (r : Rec) : AP := if D1 m r = true then j7 m c r else ⟨c, 0, false⟩
def F5 (m : PMap) (c : Cll) (r : Rec) : AP := if q9 m c = true ∧ D1 m r = true then j7 m c r else ⟨O7, 0, false⟩
def srt (l : List Wlk) : Prop := ∀ i j, i < j → j < l.length → (nth .wlk l i).id < (nth .wlk l j).id
theorem a8x {m : PMap} {l : List Wlk} (h : y7 m l = true) : srt l := by
 intro i j hij
 induction j with
 | zero => omega
 | succ j ih =>
  intro hj
  have h1 := (j9 _ _).1 h (j + 1) hj
  simp only [a3L, Bool.and_eq_true, Bool.or_eq_true, decide_eq_true_eq, Nat.add_sub_cancel] at h1
  have h2 : (nth .wlk l j).id < (nth .wlk l (j + 1)).id := h1.2.resolve_left (by omega)
  rcases Nat.lt_or_ge i j with h3 | h3
  ·exact Int.lt_trans (ih h3 (by omega)) h2
  ·have : i = j := by omega
   subst this
   exact h2
theorem a7X {l : List Wlk} {i : Nat} {w : Wlk} (h : srt l) (hw : w.id = (nth .wlk l i).id) : srt (l.set i w) := by
 have hid : ∀ j, (nth .wlk (l.set i w) j).id = (nth .wlk l j).id := fun j => by
  by_cases hj : i = j
  ·subst hj
   by_cases hi : i < l.length
   ·rw [l9 .wlk hi, hw]
   ·rw [List.set_eq_of_length_le (by omega)]
  ·rw [n9 .wlk hj]
 intro a b hab hb
 rw [hid, hid]
 rw [List.length_set] at hb
 exact h a b hab hb
theorem a5W {l : List Wlk} {i : Nat} (h : srt l) (hi : i < l.length) : B2 l (nth .wlk l i).id = l.take i ++ l.drop (i + 1) := by
 have h1 : ∀ p : Wlk → Bool, l.filter p = (l.take i ++ (nth .wlk l i :: l.drop (i + 1))).filter p := fun p => by
  rw [k9 .wlk l i hi, List.getElem_cons_drop, List.take_append_drop]
 unfold B2
 rw [h1, List.filter_append, List.filter_cons]
 have ha : (l.take i).filter (fun w => decide (w.id ≠ (nth .wlk l i).id)) = l.take i := by
  rw [List.filter_eq_self]
  intro x hx
  obtain ⟨j, hj, rfl⟩ := List.getElem_of_mem hx
  rw [List.length_take] at hj
  have := h j i (by omega) hi
  rw [k9 .wlk l j (by omega)] at this
  simp only [List.getElem_take, ne_eq, decide_eq_true_eq]
  omega
 have hb : (l.drop (i + 1)).filter (fun w => decide (w.id ≠ (nth .wlk l i).id)) = l.drop (i + 1) := by
  rw [List.filter_eq_self]
  intro x hx
  obtain ⟨j, hj, rfl⟩ := List.getElem_of_mem hx
  rw [List.length_drop] at hj
  have := h i (i + 1 + j) (by omega) (by omega)
  rw [k9 .wlk l (i + 1 + j) (by omega)] at this
  simp only [List.getElem_drop, ne_eq, decide_eq_true_eq]
  omega
 rw [ha, hb]
 simp
theorem c7j {l : List Wlk} {i : Nat} {w : Wlk} (h : srt l) (hi : i < l.length) (hw : w.id = (nth .wlk l i).id) : I7 l w = l.set i w := by
 unfold I7
 rw [hw, a5W h hi]
 have hl : (l.take i ++ l.drop (i + 1)).length = l.length - 1 := by simp; omega
 have hpos : z8 (l.take i ++ l.drop (i + 1)) (nth .wlk l i).id = i := by
  have hb : ∀ j, j < i → P6 (nth .wlk l i).id (nth .wlk (l.take i ++ l.drop (i + 1)) j) = false := fun j hj => by
   have h1 : nth .wlk (l.take i ++ l.drop (i + 1)) j = nth .wlk l j := by
    rw [k9 .wlk _ j (by rw [hl]; omega), k9 .wlk l j (by omega), List.getElem_append_left (by rw [List.length_take]; omega), List.getElem_take]
   rw [h1]
   have := h j i hj hi
   simp only [P6, decide_eq_false_iff_not]
   omega
  by_cases he : i + 1 < l.length
  ·have h1 : nth .wlk (l.take i ++ l.drop (i + 1)) i = nth .wlk l (i + 1) := by
    rw [k9 .wlk _ i (by rw [hl]; omega), k9 .wlk l (i + 1) he, List.getElem_append_right (by rw [List.length_take]; omega), List.getElem_drop]
    congr 1
    rw [List.length_take]; omega
   have h2 := h i (i + 1) (by omega) he
   have : idx (P6 (nth .wlk l i).id) (l.take i ++ l.drop (i + 1)) = i := by
    refine a9t (by rw [hl]; omega) ?_ fun j hj => ?_
    ·rw [← k9 .wlk _ i (by rw [hl]; omega), h1]
     simpa [P6] using h2
    ·rw [← k9 .wlk _ j (by rw [hl]; omega)]
     exact hb j hj
   unfold z8
   rw [this, if_neg (by omega)]
   rfl
  ·have : idx (P6 (nth .wlk l i).id) (l.take i ++ l.drop (i + 1)) = -1 := by
    refine a1s fun j hj => ?_
    rw [← k9 .wlk _ j hj]
    rw [hl] at hj
    exact hb j (by omega)
   unfold z8
   rw [this, if_pos (by omega), hl]
   omega
 rw [hpos]
 unfold insL
 rw [List.take_append_of_le_length (by rw [List.length_take]; omega), List.take_take, Nat.min_self, List.drop_append_of_le_length (by rw [List.length_take]; omega)]
 rw [show (l.take i).drop i = [] from List.drop_eq_nil_of_le (by rw [List.length_take]; omega), List.nil_append, List.set_eq_take_append_cons_drop, if_pos hi]
 simp
theorem L7 {l : List Wlk} {id : Int} (h : o9 l id = true) : (j4 l id).toNat < l.length ∧ 0 ≤ j4 l id := by
 simp only [o9, decide_eq_true_eq] at h
 have := N1 l id
 omega
theorem b3m {l : List Wlk} {id : Int} : o9 l id = false ↔ j4 l id < 0 := by
 simp only [o9, decide_eq_false_iff_not]
 omega
theorem a2Z {l : List Wlk} {id : Int} (h : o9 l id = true) : B3 l id = nth .wlk l (j4 l id).toNat := by
 unfold B3
 rw [if_pos (L7 h).2]
theorem id_w {l : List Wlk} {id : Int} (h : o9 l id = true) : (nth .wlk l (j4 l id).toNat).id = id := a5k (L7 h).2
theorem b9o {l : List Wlk} {who : Int} {w : Wlk} (hs : srt l) (h : o9 l who = true) (hw : w.id = who) : I7 l w = l.set (j4 l who).toNat w :=
 c7j hs (L7 h).1 (by rw [hw, id_w h])
theorem R9 {l : List Wlk} {who x : Int} {a : Wlk} (h : o9 l who = true) (ha : a.id = who) : j4 (l.set (j4 l who).toNat a) x = j4 l x := a3x (by rw [ha, id_w h])
theorem a4u {l : List Wlk} {who x : Int} {a : Wlk} (h : o9 l who = true) (ha : a.id = who) : o9 (l.set (j4 l who).toNat a) x = o9 l x := by
 unfold o9
 rw [R9 h ha]
theorem b2q {l : List Wlk} {who : Int} {a : Wlk} (hs : srt l) (h : o9 l who = true) (ha : a.id = who) : srt (l.set (j4 l who).toNat a) := a7X hs (by rw [ha, id_w h])
theorem c8b {l : List Wlk} {who : Int} {a : Wlk} (h : o9 l who = true) (ha : a.id = who) : B3 (l.set (j4 l who).toNat a) who = a := by
 rw [a2Z (by rw [a4u h ha]; exact h), R9 h ha, l9 .wlk (L7 h).1]
theorem put_w1 {l : List Wlk} {who : Int} {a w : Wlk} (hs : srt l) (h : o9 l who = true) (ha : a.id = who) (hw : w.id = who) : I7 (l.set (j4 l who).toNat a) w = l.set (j4 l who).toNat w := by
 rw [b9o (b2q hs h ha) (by rw [a4u h ha]; exact h) hw, R9 h ha, List.set_set]
theorem ne_w {l : List Wlk} {who to : Int} (h : o9 l who = true) (ht : o9 l to = true) (hne : to ≠ who) : (j4 l who).toNat ≠ (j4 l to).toNat := by
 have h1 := (L7 h).2
 have h2 := (L7 ht).2
 exact a2J (by omega) (by omega) hne
theorem find_t {l : List Wlk} {who to : Int} {a : Wlk} (h : o9 l who = true) (ht : o9 l to = true) (hne : to ≠ who) (ha : a.id = who) : B3 (l.set (j4 l who).toNat a) to = nth .wlk l (j4 l to).toNat := by
 rw [a2Z (by rw [a4u h ha]; exact ht), R9 h ha, n9 .wlk (ne_w h ht hne)]
theorem put_t {l : List Wlk} {who to : Int} {a v : Wlk} (hs : srt l) (h : o9 l who = true) (ht : o9 l to = true) (ha : a.id = who) (hv : v.id = to) : I7 (l.set (j4 l who).toNat a) v = (l.set (j4 l who).toNat a).set (j4 l to).toNat v := by
 rw [b9o (b2q hs h ha) (by rw [a4u h ha]; exact ht) hv, R9 h ha]
theorem a8L {l : List Wlk} {who to x : Int} {a b : Wlk} (h : o9 l who = true) (ht : o9 l to = true) (ha : a.id = who) (hb : b.id = to) : j4 ((l.set (j4 l who).toNat a).set (j4 l to).toNat b) x = j4 l x := by
 have h2 : o9 (l.set (j4 l who).toNat a) to = true := by rw [a4u h ha]; exact ht
 have h3 := R9 (x := x) h2 hb
 rw [R9 h ha, R9 h ha] at h3
 exact h3
theorem b7O {l : List Wlk} {who to x : Int} {a b : Wlk} (h : o9 l who = true) (ht : o9 l to = true) (ha : a.id = who) (hb : b.id = to) : o9 ((l.set (j4 l who).toNat a).set (j4 l to).toNat b) x = o9 l x := by
 unfold o9
 rw [a8L h ht ha hb]
theorem srt_w2 {l : List Wlk} {who to : Int} {a b : Wlk} (hs : srt l) (h : o9 l who = true) (ht : o9 l to = true) (ha : a.id = who) (hb : b.id = to) : srt ((l.set (j4 l who).toNat a).set (j4 l to).toNat b) := by
 have h2 : o9 (l.set (j4 l who).toNat a) to = true := by rw [a4u h ha]; exact ht
 have h3 := b2q (b2q hs h ha) h2 hb
 rw [R9 h ha] at h3
 exact h3
theorem c8a {l : List Wlk} {who to : Int} {a b : Wlk} (h : o9 l who = true) (ht : o9 l to = true) (hne : to ≠ who) (ha : a.id = who) (hb : b.id = to) : B3 ((l.set (j4 l who).toNat a).set (j4 l to).toNat b) who = a := by
 rw [a2Z (by rw [b7O h ht ha hb]; exact h), a8L h ht ha hb, n9 .wlk (ne_w h ht hne).symm, l9 .wlk (L7 h).1]
theorem put_w2 {l : List Wlk} {who to : Int} {a b w : Wlk} (hs : srt l) (h : o9 l who = true) (ht : o9 l to = true) (hne : to ≠ who) (ha : a.id = who) (hb : b.id = to) (hw : w.id = who) :
  I7 ((l.set (j4 l who).toNat a).set (j4 l to).toNat b) w = (l.set (j4 l to).toNat b).set (j4 l who).toNat w := by
 rw [b9o (srt_w2 hs h ht ha hb) (by rw [b7O h ht ha hb]; exact h) hw, a8L h ht ha hb, a4R (ne_w h ht hne)]
theorem b6H {m : PMap} {c : Cll} {o : Ord} {i : Nat} (h : q9 m c = true) (hi : i < c.wlks.length) (hd : o.dest = 0) : IntKind.i64.wrap ((nth .wlk c.wlks i).pos - 1) = (nth .wlk c.wlks i).pos + (2 * o.dest - 1) := by
 have h1 := G7 h hi
 rw [e8 (by omega) (by omega)]
 omega
theorem b6G {m : PMap} {c : Cll} {o : Ord} {i : Nat} (h : q9 m c = true) (hi : i < c.wlks.length) (ho : J6 o = true) (hk : o.kind = 1) (hd : ¬ o.dest = 0) : IntKind.i64.wrap ((nth .wlk c.wlks i).pos + 1) = (nth .wlk c.wlks i).pos + (2 * o.dest - 1) := by
 have h1 := G7 h hi
 rw [G6] at ho
 rw [e8 (by omega) (by omega)]
 omega
theorem c7U (l : List Wlk) (id : Int) : o9 (B2 l id) id = false := by
 rw [b3m]
 have : idx (isId id) (B2 l id) = -1 := by
  refine a1s fun j hj => ?_
  have h1 : ∀ w ∈ B2 l id, isId id w = false := fun w hw => by
   simp only [B2, List.mem_filter, decide_eq_true_eq] at hw
   simpa [isId] using hw.2
  exact h1 _ (List.getElem_mem hj)
 unfold j4
 rw [this]
 omega
theorem b8G {l : List Wlk} (h : srt l) (h1 : ∀ i, i < l.length → 1 ≤ (nth .wlk l i).id ∧ (nth .wlk l i).id ≤ 9) : l.length ≤ 9 := by
 have hg : ∀ i, i < l.length → (i : Int) + 1 ≤ (nth .wlk l i).id := by
  intro i
  induction i with
  | zero => intro hi; have := (h1 0 hi).1; simpa using this
  | succ i ih =>
   intro hi
   have h2 := ih (by omega)
   have h3 := h i (i + 1) (by omega) hi
   push_cast
   omega
 rcases Nat.lt_or_ge 9 l.length with hlt | hge
 ·have h2 := hg (l.length - 1) (by omega)
  have h3 := (h1 (l.length - 1) (by omega)).2
  omega
 ·exact hge
theorem a7g {m : PMap} {c : Cll} (h : q9 m c = true) : srt c.wlks := a8x (n6 h).1
theorem V6 {m : PMap} {c : Cll} (h : q9 m c = true) : c.wlks.length ≤ 9 := b8G (a7g h) fun i hi => (G7 h hi).1
theorem L4 {r : Rec} : a3u r = true ↔ ((r.kind = 1 ∧ J6 r.ord = true ∧ r.side = 0 ∧ (r.pcl.n = 0 ∧ r.pcl.kind = 0 ∧ (r.pcl.wlk.id = 0 ∧ r.pcl.wlk.pos = 0 ∧ r.pcl.wlk.l7 = 0 ∧ r.pcl.wlk.seq = 0 ∧ r.pcl.wlk.last = 0) ∧ r.pcl.l7 = 0) ∧ r.n = 0) ∨
  (r.kind = 2 ∧ (r.side = 0 ∨ r.side = 1) ∧ (r.ord.who = 0 ∧ r.ord.seq = 0 ∧ r.ord.kind = 0 ∧ r.ord.dest = 0 ∧ r.ord.n = 0) ∧ r.n = 0) ∨
  (r.kind = 3 ∧ (r.side = 0 ∨ r.side = 1) ∧ 1 ≤ r.n ∧ r.n ≤ 5000 ∧ (r.ord.who = 0 ∧ r.ord.seq = 0 ∧ r.ord.kind = 0 ∧ r.ord.dest = 0 ∧ r.ord.n = 0) ∧ (r.pcl.n = 0 ∧ r.pcl.kind = 0 ∧ (r.pcl.wlk.id = 0 ∧ r.pcl.wlk.pos = 0 ∧ r.pcl.wlk.l7 = 0 ∧ r.pcl.wlk.seq = 0 ∧ r.pcl.wlk.last = 0) ∧ r.pcl.l7 = 0))) := by
 simp [a3u, a0u, a2i, a2r]
theorem r8 (t : RT) {l : List t.ty} {i : Nat} (h : i < l.length) : nth t l i ∈ l := by rw [k9 t l i h]; exact List.getElem_mem h
theorem a0G (t : RT) {l : List t.ty} {x : t.ty} (h : x ∈ l) : ∃ i, i < l.length ∧ nth t l i = x := by
 obtain ⟨i, hi, rfl⟩ := List.getElem_of_mem h
 exact ⟨i, hi, k9 t l i hi⟩
def ids (a b : Wlk) : Prop := a.id < b.id
theorem c3C {l : List Wlk} : srt l ↔ l.Pairwise ids := by
 rw [List.pairwise_iff_getElem]
 constructor
 ·intro h i j hi hj hij
  have := h i j hij hj
  rw [k9 .wlk l i hi, k9 .wlk l j hj] at this
  exact this
 ·intro h i j hij hj
  rw [k9 .wlk l i (by omega), k9 .wlk l j hj]
  exact h i j (by omega) hj hij
theorem a0d {m : PMap} {l : List Wlk} : y7 m l = true ↔ (∀ w ∈ l, O8 m w = true) ∧ srt l := by
 constructor
 ·intro h
  refine ⟨fun w hw => ?_, a8x h⟩
  obtain ⟨i, hi, rfl⟩ := a0G .wlk hw
  exact a6m h hi
 ·rintro ⟨h1, h2⟩
  unfold y7
  rw [j9]
  intro i hi
  simp only [a3L, Bool.and_eq_true, Bool.or_eq_true, decide_eq_true_eq]
  refine ⟨h1 _ (r8 .wlk hi), ?_⟩
  rcases Nat.eq_zero_or_pos i with h0 | h0
  ·exact .inl h0
  ·exact .inr (h2 (i - 1) i (by omega) hi)
def b4i (m : PMap) (cell : Int) (l : List Pcl) (n i : Int) (s : Nat) : Prop :=
 s4 m l n = true ∧ 0 ≤ i ∧ i ≤ 5000 ∧ (b6 m cell s = -1 → n = 0 ∧ i = 0) ∧ ∀ p ∈ l, p.kind = 1 → l6 m p.wlk.pos = b6 m cell s
theorem b6l {m : PMap} {c : Cll} {s : Nat} : I6 m c s = true ↔ b4i m c.cell (nth .pcls c.outs s) (nth .int c.next s) (nth .int c.ins s) s := by
 simp only [I6, R6, b4i, Bool.and_eq_true, decide_eq_true_eq, j9, a0D]
 constructor
 ·rintro ⟨⟨h1, h2, h3, h4⟩, h5⟩
  refine ⟨h1, h2, h3, h4, fun p hp hk => ?_⟩
  obtain ⟨i, hi, rfl⟩ := a0G .pcl hp
  exact h5 i hi hk
 ·rintro ⟨h1, h2, h3, h4, h5⟩
  exact ⟨⟨h1, h2, h3, h4⟩, fun i hi hk => h5 _ (r8 .pcl hi) hk⟩
theorem C4 {m : PMap} {c : Cll} : q9 m c = true ↔ (∀ w ∈ c.wlks, O8 m w = true ∧ l6 m w.pos = c.cell) ∧ srt c.wlks ∧ n8 m = true ∧ 0 ≤ c.cell ∧ c.cell < m.cells ∧ 0 ≤ c.ground ∧ c.ground ≤ 900 ∧ c.outs.length = 2 ∧ c.next.length = 2 ∧ c.ins.length = 2 ∧
  ∀ s, s < 2 → b4i m c.cell (nth .pcls c.outs s) (nth .int c.next s) (nth .int c.ins s) s := by
 simp only [q9, W6, Bool.and_eq_true, decide_eq_true_eq, j9, a0d, a2k, b6l]
 constructor
 ·rintro ⟨⟨⟨⟨h1, h2⟩, h3, h4, h5, h6, h7, h8, h9, h10⟩, h11⟩, h12⟩
  refine ⟨fun w hw => ⟨h1 w hw, ?_⟩, h2, h3, h4, h5, h6, h7, h8, h9, h10, h12⟩
  obtain ⟨i, hi, rfl⟩ := a0G .wlk hw
  exact h11 i hi
 ·rintro ⟨h1, h2, h3, h4, h5, h6, h7, h8, h9, h10, h12⟩
  exact ⟨⟨⟨⟨fun w hw => (h1 w hw).1, h2⟩, h3, h4, h5, h6, h7, h8, h9, h10⟩, fun i hi => (h1 _ (r8 .wlk hi)).2⟩, h12⟩
theorem I3 {m : PMap} {l : List Pcl} {n : Int} : s4 m l n = true ↔ n8 m = true ∧ 0 ≤ n ∧ n ≤ 5000 ∧ (l.length : Int) ≤ n ∧ ∀ i, i < l.length → H5 m (nth .pcl l i) = true ∧ (nth .pcl l i).n = n - l.length + i := by
 simp [s4, j9, a2n, and_assoc]
theorem a4o (t : RT) {l r : List t.ty} {i : Nat} (h : i < l.length) : nth t (l ++ r) i = nth t l i := by
 rw [k9 t (l ++ r) i (by rw [List.length_append]; omega), k9 t l i h, List.getElem_append_left h]
theorem a9g (t : RT) {l : List t.ty} {x : t.ty} : nth t (l ++ [x]) l.length = x := by
 rw [k9 t (l ++ [x]) l.length (by simp)]
 simp
theorem c2a (t : RT) {l : List t.ty} {k i : Nat} (h : k + i < l.length) : nth t (l.drop k) i = nth t l (k + i) := by
 rw [k9 t (l.drop k) i (by rw [List.length_drop]; omega), k9 t l (k + i) h, List.getElem_drop]
theorem a8O {m : PMap} {l : List Pcl} {n : Int} {p : Pcl} (h : s4 m l n = true) (hn : n < 5000) (hp : H5 m p = true) (he : p.n = n) : s4 m (l ++ [p]) (n + 1) = true := by
 rw [I3] at h ⊢
 obtain ⟨h1, h2, h3, h4, h5⟩ := h
 have hl : (l ++ [p]).length = l.length + 1 := by simp
 refine ⟨h1, by omega, by omega, by rw [hl]; omega, fun i hi => ?_⟩
 rw [hl] at hi ⊢
 by_cases hlt : i < l.length
 ·rw [a4o .pcl hlt]
  have := h5 i hlt
  refine ⟨this.1, by rw [this.2]; omega⟩
 ·have : i = l.length := by omega
  subst this
  have he2 : nth .pcl (l ++ [p]) l.length = p := a9g .pcl
  rw [he2]
  exact ⟨hp, by rw [he]; omega⟩
theorem a8P {m : PMap} {l : List Pcl} {n : Int} {k : Nat} (h : s4 m l n = true) (hk : k ≤ l.length) : s4 m (l.drop k) n = true := by
 rw [I3] at h ⊢
 obtain ⟨h1, h2, h3, h4, h5⟩ := h
 have hl : (l.drop k).length = l.length - k := List.length_drop
 refine ⟨h1, h2, h3, by rw [hl]; omega, fun i hi => ?_⟩
 rw [hl] at hi ⊢
 rw [c2a .pcl (by omega)]
 have := h5 (k + i) (by omega)
 refine ⟨this.1, by rw [this.2]; omega⟩
theorem b1G : ∀ (l : List Pcl) (b x : Int), (∀ i, i < l.length → (nth .pcl l i).n = b + i) → b ≤ x → x9 l x = l.drop (x - b).toNat
 | [], b, x, _, _ => by simp [x9]
 | p :: r, b, x, h, hx => by
  have h0 : p.n = b := by simpa [nth] using h 0 (by simp)
  have hr : ∀ i, i < r.length → (nth .pcl r i).n = (b + 1) + i := fun i hi => by
   have := h (i + 1) (by simpa using hi)
   have he : nth .pcl (p :: r) (i + 1) = nth .pcl r i := by simp [nth]
   rw [he] at this
   rw [this]
   omega
  by_cases hlt : b < x
  ·have ih := b1G r (b + 1) x hr (by omega)
   have e1 : (x - b).toNat = (x - (b + 1)).toNat + 1 := by omega
   rw [e1, List.drop_succ_cons, ← ih]
   simp only [x9]
   rw [List.filter_cons_of_neg]
   simp; omega
  ·have e1 : (x - b).toNat = 0 := by omega
   rw [e1, List.drop_zero]
   unfold x9
   rw [List.filter_eq_self]
   intro q hq
   obtain ⟨i, hi, rfl⟩ := a0G .pcl hq
   rw [h i hi]
   simp; omega
theorem a5m {m : PMap} {l : List Pcl} {n x : Int} (h : s4 m l n = true) (hx : n - l.length ≤ x) : x9 l x = l.drop (x - (n - l.length)).toNat :=
 b1G l (n - l.length) x (fun i hi => (((I3.1 h).2.2.2.2 i hi).2)) hx
theorem a8y {l : List Wlk} (h : srt l) (p : Wlk → Bool) : srt (l.filter p) := by
 rw [c3C] at *
 exact h.filter p
theorem put_pw {l : List Wlk} {w : Wlk} (h : srt l) (hn : ∀ x ∈ l, x.id ≠ w.id) : srt (insL l (z8 l w.id) [w]) := by
 have hle := a6F l w.id
 have h1 : ∀ x ∈ l.take (z8 l w.id), x.id < w.id := fun x hx => by
  have hxl := List.mem_of_mem_take hx
  obtain ⟨j, hj, rfl⟩ := List.getElem_of_mem hx
  rw [List.length_take] at hj
  have := (j9 _ _).1 (b9L hle (Nat.lt_irrefl (z8 l w.id))) j (by omega)
  rw [List.getElem_take] at hxl ⊢
  simp only [nab, P6, Bool.not_eq_true', decide_eq_false_iff_not] at this
  rw [k9 .wlk l j (by omega)] at this
  have := hn _ hxl
  omega
 have h2 : ∀ x ∈ l.drop (z8 l w.id), w.id < x.id := fun x hx => by
  obtain ⟨j, hj, rfl⟩ := List.getElem_of_mem hx
  rw [List.length_drop] at hj
  rcases C3 (P6 w.id) l with ⟨h3, _⟩ | ⟨i, hi, h3, h4, _⟩
  ·unfold z8 at hj
   rw [h3] at hj
   simp at hj
  ·have he : z8 l w.id = i := by
    unfold z8
    rw [h3, if_neg (by omega)]
    rfl
   simp only [P6, decide_eq_true_eq] at h4
   rw [List.getElem_drop]
   simp only [he]
   rcases Nat.eq_zero_or_pos j with h0 | h0
   ·subst h0; exact h4
   ·have := h i (i + j) (by omega) (by omega)
    rw [k9 .wlk l i hi, k9 .wlk l (i + j) (by omega)] at this
    omega
 rw [c3C] at h ⊢
 unfold insL
 rw [List.pairwise_append]
 refine ⟨h.sublist (List.take_sublist _ _), ?_, fun a ha b hb => ?_⟩
 ·simp only [List.cons_append, List.nil_append, List.pairwise_cons]
  exact ⟨fun b hb => h2 b hb, h.sublist (List.drop_sublist _ _)⟩
 ·simp only [List.cons_append, List.nil_append, List.mem_cons] at hb
  rcases hb with rfl | hb
  ·exact h1 a ha
  ·exact Int.lt_trans (h1 a ha) (h2 b hb)
theorem c5e {α : Type} {l m : List α} {n : Nat} {x : α} (h : x ∈ insL l n m) : x ∈ l ∨ x ∈ m := by
 simp only [insL, List.mem_append] at h
 rcases h with h | h | h
 ·exact .inl (List.mem_of_mem_take h)
 ·exact .inr h
 ·exact .inl (List.mem_of_mem_drop h)
theorem b2I {l : List Wlk} {id : Int} {x : Wlk} (h : x ∈ B2 l id) : x ∈ l ∧ x.id ≠ id := by
 simpa [B2] using h
theorem b9p {l : List Wlk} {w : Wlk} (h : srt l) : srt (I7 l w) := put_pw (a8y h _) fun x hx => (b2I hx).2
theorem b2z {l : List Wlk} {w x : Wlk} (h : x ∈ I7 l w) : x ∈ l ∨ x = w := by
 rcases c5e h with h | h
 ·exact .inl (b2I h).1
 ·exact .inr (by simpa using h)
theorem b8L {l : List Wlk} {i : Nat} {w x : Wlk} (h : x ∈ l.set i w) : x ∈ l ∨ x = w := List.mem_or_eq_of_mem_set h
theorem b6N {m : PMap} {c : Cll} {i : Nat} {w : Wlk} {g : Int} (h : q9 m c = true) (hw : w.id = (nth .wlk c.wlks i).id) (hok : O8 m w = true) (hp : l6 m w.pos = c.cell) (hg : 0 ≤ g ∧ g ≤ 900) : q9 m ⟨c.cell, c.wlks.set i w, g, c.outs, c.next, c.ins⟩ = true := by
 rw [C4] at h ⊢
 obtain ⟨h1, h2, h3, h4, h5, _, _, h8⟩ := h
 refine ⟨fun x hx => ?_, a7X h2 hw, h3, h4, h5, hg.1, hg.2, h8⟩
 rcases b8L hx with hx | rfl
 ·exact h1 x hx
 ·exact ⟨hok, hp⟩
theorem lt5000 {x : Int} (h : x ≤ 5000) (h2 : ¬ x = 5000) : x < 5000 := by omega
theorem c5j {x : Int} (h : x ≤ 5000) (h2 : ¬ x = 5000) : x ≤ 4999 := by omega
theorem le_succ {a b : Int} (h : a = b) (h2 : a ≤ 4999) : b + 1 ≤ 5000 := by omega
theorem c7F {b : Int} (h : 0 ≤ b) : 0 ≤ b + 1 := by omega
theorem b0P {m : PMap} {c : Cll} {s : Nat} {p : Pcl} (h : q9 m c = true) (hs : s < 2) (hn : ¬ nth .int c.next s = 5000) (hp : H5 m ⟨nth .int c.next s, p.kind, p.wlk, p.l7⟩ = true) (hsd : ¬ b6 m c.cell s = -1) (hk : p.kind = 1 → l6 m p.wlk.pos = b6 m c.cell s) :
  (A7 c s p).length = 2 ∧ (D8 c s).length = 2 ∧ ∀ s', s' < 2 → b4i m c.cell (nth .pcls (A7 c s p) s') (nth .int (D8 c s) s') (nth .int c.ins s') s' := by
 have hside := C2 h hs
 rw [C4] at h
 obtain ⟨_, _, _, _, _, _, _, ho, hnx, hi, hsb⟩ := h
 refine ⟨by simp [A7, ho], by simp [D8, hnx], fun s' hs' => ?_⟩
 have hb := hsb s' hs'
 unfold A7 D8
 by_cases he : s = s'
 ·subst he
  rw [l9 .pcls (by omega), l9 .int (by omega)]
  obtain ⟨b1, b2, b3, b4, b5⟩ := hb
  refine ⟨a8O b1 (lt5000 hside.1.2 hn) hp rfl, b2, b3, fun hh => absurd hh hsd, fun q hq hqk => ?_⟩
  ·simp only [List.mem_append, List.mem_singleton] at hq
   rcases hq with hq | rfl
   ·exact b5 q hq hqk
   ·exact hk hqk
 ·rw [n9 .pcls he, n9 .int he]
  exact hb
theorem b1J {m : PMap} {p d : Int} (hd : d = 0 ∨ d = 1) (h1 : ¬ l6 m (p + (2 * d - 1)) = -1) (h0 : ¬ l6 m p = -1) (h2 : ¬ l6 m (p + (2 * d - 1)) = l6 m p) : l6 m (p + (2 * d - 1)) = b6 m (l6 m p) d ∧ ¬ b6 m (l6 m p) d = -1 := by
 obtain ⟨g1, g2, g3, g4⟩ := K5 h1
 obtain ⟨_, k2, k3, k4⟩ := K5 h0
 have hok := g1
 rw [r6] at g1
 obtain ⟨c, w⟩ := m
 simp only at *
 have hw : w = 2 ∨ w = 3 ∨ w = 4 ∨ w = 5 ∨ w = 6 ∨ w = 7 ∨ w = 8 := by omega
 rw [g4, k4] at h2
 rw [g4, k4]
 unfold b6
 simp only [hok, true_and]
 clear g4 k4 h1 h0
 rcases hw with rfl | rfl | rfl | rfl | rfl | rfl | rfl <;> rcases hd with rfl | rfl <;> refine ⟨?_, ?_⟩ <;> (repeat' split) <;> omega
theorem c6C {m : PMap} {c : Cll} {o : Ord} (h : q9 m c = true) (ho : J6 o = true) : q9 m (E6 m c o).c = true := by
 have hoi := G6.1 ho
 unfold E6
 split
 ·exact h
 rename_i hneg
 have hlt := E4 hneg
 have hid := a5k (l := c.wlks) (id := o.who) (by omega)
 generalize hi : (j4 c.wlks o.who).toNat = i at *
 have hwb := G7 h hlt
 have hwok := (C4.1 h).1 _ (r8 .wlk hlt)
 have hwi := I8.1 hwok.1
 have hf := n6 h
 simp only
 generalize hw : nth .wlk c.wlks i = w at *
 split
 ·exact h
 split
 ·exact h
 rename_i hs1 hs2
 have stay : ∀ (pos l7 last g : Int), l6 m pos = c.cell → 0 ≤ l7 ∧ l7 ≤ 99 → 0 ≤ last ∧ last ≤ 9 → 0 ≤ g ∧ g ≤ 900 → q9 m ⟨c.cell, c.wlks.set i ⟨w.id, pos, l7, o.seq, last⟩, g, c.outs, c.next, c.ins⟩ = true := by
  intro pos l7 last g hp hc hl hg
  refine b6N h (by rw [hw]) ?_ hp hg
  rw [I8]
  simp only
  exact ⟨hwi.1, hwi.2.1, by rw [hp]; omega, hc.1, hc.2, by omega, by omega, hl.1, hl.2⟩
 have hwc : l6 m w.pos = c.cell := hwok.2
 have hco : 0 ≤ w.l7 ∧ w.l7 ≤ 99 := ⟨hwi.2.2.2.1, hwi.2.2.2.2.1⟩
 have hgr : 0 ≤ c.ground ∧ c.ground ≤ 900 := ⟨hf.2.2.2.2.1, hf.2.2.2.2.2.1⟩
 have fin : ∀ code, 0 ≤ code ∧ code ≤ 9 → q9 m (D9 c i ⟨w.id, w.pos, w.l7, o.seq, w.last⟩ c.ground code).c = true := fun code hc => stay _ _ _ _ hwc hco hc hgr
 unfold L9
 split
 ·unfold V2
  simp only
  split
  ·exact fin 2 (by omega)
  split
  ·rename_i h2
   exact stay _ _ _ _ h2 hco (by omega) hgr
  split
  ·exact fin 2 (by omega)
  rename_i e1 e2 e3
  have hd : o.dest = 0 ∨ o.dest = 1 := by omega
  obtain ⟨g1, g2⟩ := b1J (m := m) (p := w.pos) hd e1 (by rw [hwc]; omega) (by rw [hwc]; exact e2)
  rw [hwc] at g1 g2
  have hdd : ((o.dest.toNat : Nat) : Int) = o.dest := by omega
  have hside := C2 h (s := o.dest.toNat) (by omega)
  obtain ⟨s1, s2, s3⟩ := b0P (p := ⟨0, 1, ⟨w.id, w.pos + (2 * o.dest - 1), w.l7, o.seq, 1⟩, 0⟩) h (s := o.dest.toNat) (by omega) e3 (by
   rw [L5]
   refine ⟨hf.2.1, hside.1.1, c5j hside.1.2 e3, .inl ⟨rfl, ?_, rfl⟩⟩
   ·rw [I8]
    exact ⟨hwi.1, hwi.2.1, e1, hco.1, hco.2, by show 0 ≤ o.seq; omega, by show o.seq ≤ 900; omega, by show (0 : Int) ≤ 1; omega, by show (1 : Int) ≤ 9; omega⟩) (by rw [hdd]; exact g2) (fun _ => by rw [hdd]; exact g1)
  rw [C4] at h ⊢
  obtain ⟨h1, h2, h3, h4, h5, h6, h7, h8, h9, h10, h11⟩ := h
  refine ⟨fun x hx => ?_, a8y (a7X h2 (by rw [hw])) _, h3, h4, h5, h6, h7, s1, s2, h10, s3⟩
  obtain ⟨hx1, hx2⟩ := b2I hx
  rcases b8L hx1 with hx1 | rfl
  ·exact h1 x hx1
  ·exact absurd hid hx2
 split
 ·unfold V4
  simp only
  split
  ·exact fin 4 (by omega)
  split
  ·exact fin 3 (by omega)
  split
  ·exact fin 5 (by omega)
  rename_i e1 e2 e3
  have hlj := E4 e1
  have hne : o.dest ≠ o.who := by omega
  have hij := a2J hneg e1 hne
  rw [hi] at hij
  generalize hj : (j4 c.wlks o.dest).toNat = j at *
  have hvok := (C4.1 h).1 _ (r8 .wlk hlj)
  have hvi := I8.1 hvok.1
  have h' := b6N (i := j) (w := ⟨(nth .wlk c.wlks j).id, (nth .wlk c.wlks j).pos, (nth .wlk c.wlks j).l7 + o.n, (nth .wlk c.wlks j).seq, (nth .wlk c.wlks j).last⟩) h rfl (by
   rw [I8]
   simp only
   exact ⟨hvi.1, hvi.2.1, hvi.2.2.1, by omega, by omega, hvi.2.2.2.2.2⟩) hvok.2 hgr
  refine b6N (i := i) (w := ⟨w.id, w.pos, w.l7 - o.n, o.seq, 1⟩) h' (by simp only; rw [n9 .wlk (Ne.symm hij), hw]) (by
   rw [I8]
   simp only
   exact ⟨hwi.1, hwi.2.1, hwi.2.2.1, by omega, by omega, by omega, by omega, by omega, by omega⟩) hwc hgr
 split
 ·unfold V5
  simp only
  split
  ·exact fin 3 (by omega)
  split
  ·exact fin 5 (by omega)
  exact stay w.pos (w.l7 - o.n) 1 (c.ground + o.n) hwc (by omega) (by omega) (by omega)
 split
 ·unfold V3
  simp only
  split
  ·exact fin 6 (by omega)
  split
  ·exact fin 5 (by omega)
  exact stay w.pos (w.l7 + o.n) 1 (c.ground - o.n) hwc (by omega) (by omega) (by omega)
 split
 ·unfold O2
  simp only
  split
  ·exact fin 7 (by omega)
  split
  ·exact fin 3 (by omega)
  split
  ·exact fin 5 (by omega)
  rename_i e1 e2 e3
  have he : H4 m w.pos o.dest = true := by simpa using e1
  simp only [H4, decide_eq_true_eq] at he
  have hdd : ((o.dest.toNat : Nat) : Int) = o.dest := by omega
  have hside := C2 h (s := o.dest.toNat) (by omega)
  obtain ⟨s1, s2, s3⟩ := b0P (p := ⟨0, 2, ⟨0, 0, 0, 0, 0⟩, o.n⟩) h (s := o.dest.toNat) (by omega) e3 (by
   rw [L5]
   exact ⟨hf.2.1, hside.1.1, c5j hside.1.2 e3, .inr ⟨rfl, (show a2r ⟨0, 0, 0, 0, 0⟩ = true by decide), (by show 1 ≤ o.n; omega), (by show o.n ≤ 9; omega)⟩⟩) (by rw [hdd, ← hwc]; exact he.1) (fun hk => by cases hk)
  have h' := stay w.pos (w.l7 - o.n) 1 c.ground hwc (by omega) (by omega) hgr
  rw [C4] at h' ⊢
  obtain ⟨h1, h2, h3, h4, h5, h6, h7, h8, h9, h10, h11⟩ := h'
  exact ⟨h1, h2, h3, h4, h5, h6, h7, s1, s2, h10, s3⟩
 ·exact fin 1 (by omega)
theorem b8i {m : PMap} {c : Cll} {s : Nat} {p : Pcl} (h : q9 m c = true) (hp : H5 m p = true) (hs : ¬ b6 m c.cell s = -1) : q9 m (s7 m c s p).c = true := by
 have hs2 : s < 2 := by
  have := (F8 hs).2.2.2
  omega
 have hpc : 0 ≤ p.n ∧ p.n ≤ 4999 ∧ (p.kind = 1 ∧ O8 m p.wlk = true ∧ p.l7 = 0 ∨ p.kind = 2 ∧ 1 ≤ p.l7 ∧ p.l7 ≤ 9) := by
  simp only [H5, decide_eq_true_eq] at hp
  refine ⟨hp.2.1, hp.2.2.1, hp.2.2.2.imp id fun h => ⟨h.1, h.2.2.1, h.2.2.2⟩⟩
 have hins : ¬ (¬ p.n = nth .int c.ins s) → (C0 c s).length = 2 ∧ ∀ s', s' < 2 → b4i m c.cell (nth .pcls c.outs s') (nth .int c.next s') (nth .int (C0 c s) s') s' := by
  intro hn
  obtain ⟨_, _, _, _, _, _, _, ho, hnx, hi, hsb⟩ := C4.1 h
  refine ⟨by simp [C0, hi], fun s' hs' => ?_⟩
  obtain ⟨b1, b2, b3, b4, b5⟩ := hsb s' hs'
  unfold C0
  by_cases he : s = s'
  ·subst he
   rw [l9 .int (by omega)]
   exact ⟨b1, c7F b2, le_succ (by simpa using hn) hpc.2.1, fun hh => absurd hh hs, b5⟩
  ·rw [n9 .int he]
   exact ⟨b1, b2, b3, b4, b5⟩
 unfold s7
 split
 ·exact h
 rename_i e1
 obtain ⟨i1, i2⟩ := hins (fun hh => e1 (.inl hh))
 split
 ·rw [C4] at h ⊢
  obtain ⟨h1, h2, h3, h4, h5, h6, h7, h8, h9, h10, h11⟩ := h
  exact ⟨h1, h2, h3, h4, h5, by show 0 ≤ c.ground + p.l7; omega, by show c.ground + p.l7 ≤ 900; omega, h8, h9, i1, i2⟩
 split
 ·exact h
 ·rename_i e2 e3
  have hw : O8 m p.wlk = true := by
   rcases hpc.2.2 with ⟨_, h2, _⟩ | ⟨h2, _⟩
   ·exact h2
   ·exact absurd h2 e2
  have hpos : l6 m p.wlk.pos = c.cell := by
   rcases Decidable.em (l6 m p.wlk.pos = c.cell) with h2 | h2
   ·exact h2
   ·exact absurd (.inr h2) e3
  rw [C4] at h ⊢
  obtain ⟨h1, h2, h3, h4, h5, h6, h7, h8, h9, h10, h11⟩ := h
  refine ⟨fun x hx => ?_, b9p h2, h3, h4, h5, h6, h7, h8, h9, i1, i2⟩
  rcases b2z hx with hx | rfl
  ·exact h1 x hx
  ·exact ⟨hw, hpos⟩
theorem c2V {m : PMap} {c : Cll} {s : Nat} {n : Int} (h : q9 m c = true) (hs : s < 2) : q9 m (D3 c s n).c = true := by
 unfold D3
 split
 ·exact h
 ·rename_i e1
  rw [C4] at h ⊢
  obtain ⟨h1, h2, h3, h4, h5, h6, h7, h8, h9, h10, h11⟩ := h
  refine ⟨h1, h2, h3, h4, h5, h6, h7, by simp [M1, h8], h9, h10, fun s' hs' => ?_⟩
  obtain ⟨b1, b2, b3, b4, b5⟩ := h11 s' hs'
  simp only [M1]
  by_cases he : s = s'
  ·subst he
   rw [l9 .pcls (by omega)]
   have hle : ¬ (nth .int c.next s < n) ∧ ¬ (n ≤ nth .int c.next s - (nth .pcls c.outs s).length) := ⟨fun hh => e1 (.inl hh), fun hh => e1 (.inr hh)⟩
   have hd := a5m (x := n) b1 (by have := hle.2; omega)
   refine ⟨?_, b2, b3, b4, fun p hp => b5 p ((List.mem_filter.1 hp).1)⟩
   rw [hd]
   have e2 : ¬ @LT.lt Int _ (nth .int c.next s) n := hle.1
   refine a8P b1 ?_
   have e3 := (I3.1 b1).2.2.2.1
   have e4 : @LE.le Int _ ((nth .pcls c.outs s).length : Int) (nth .int c.next s) := e3
   generalize ((nth .pcls c.outs s).length) = L at *
   generalize (nth .int c.next s : Int) = N at *
   omega
  ·rw [n9 .pcls he]
   exact ⟨b1, b2, b3, b4, b5⟩
theorem a3f {m : PMap} {c : Cll} {r : Rec} (h : q9 m c = true) (hr : D1 m r = true) : q9 m (j7 m c r).c = true := by
 simp only [D1, decide_eq_true_eq] at hr
 obtain ⟨_, h2, h3⟩ := hr
 rw [L4] at h2
 unfold j7
 split
 ·split
  ·exact c6C h (by
    rcases h2 with h2 | h2 | h2
    ·exact h2.2.1
    ·omega
    ·omega)
  ·exact h
 split
 ·exact h
 rename_i hk hsd
 have hss : (r.side.toNat : Int) = r.side := by omega
 split
 ·rename_i hk2
  exact b8i h (h3 hk2) (by rw [hss]; exact hsd)
 ·exact c2V h (by omega)
end Go.Mo
namespace Go.Sx
def St.fgs (σ : St) : List Nat → St
 | [] => σ
 | k :: ks => (σ.fg k).fgs ks
end Go.Sx
namespace Go.Mo
open Go.Sx
def r7 (m : PMap) (c : Cll) (l : List Rec) : Nat → Cll
 | 0 => c
 | k + 1 => (j7 m (r7 m c l k) (nth .rcd l k)).c
theorem a7M (m : PMap) (c : Cll) (l : List Rec) : r7 m c l 0 = c := rfl
theorem J8 (m : PMap) (c : Cll) (l : List Rec) (k : Nat) : r7 m c l (k + 1) = (j7 m (r7 m c l k) (nth .rcd l k)).c := rfl
def H8 (m : PMap) (c : Cll) (l : List Rec) (k : Nat) : Bool := D1 m (nth .rcd l k) && (j7 m (r7 m c l k) (nth .rcd l k)).ok
def T6 (m : PMap) (c : Cll) (l : List Rec) : Nat := ((List.range l.length).find? fun k => !H8 m c l k).getD l.length
def a1x (m : PMap) (c : Cll) (l : List Rec) : Cll := r7 m c l (T6 m c l)
theorem a3D {m : PMap} {c : Cll} {l : List Rec} (h : q9 m c = true) : ∀ {k : Nat}, l8 k (H8 m c l) = true → q9 m (r7 m c l k) = true
 | 0, _ => h
 | k + 1, hk => by
  rw [m7, Bool.and_eq_true] at hk
  simp only [H8, Bool.and_eq_true] at hk
  exact a3f (a3D h hk.1) hk.2.1
theorem b5Z {m : PMap} {c : Cll} {l : List Rec} {k : Nat} (hk : k < l.length) (h : l8 k (H8 m c l) = true) (hf : H8 m c l k = false) : T6 m c l = k := by
 unfold T6
 have h1 : (List.range l.length).find? (fun k => !H8 m c l k) = some k := List.find?_range_eq_some.2 ⟨by simp [hf], by simpa using hk, fun j hj => by simp [(j9 _ _).1 h j hj]⟩
 rw [h1]
 rfl
theorem a3E {m : PMap} {c : Cll} {l : List Rec} {k : Nat} (hk : k = l.length) (h : l8 k (H8 m c l) = true) : T6 m c l = k := by
 subst hk
 unfold T6
 have h1 : (List.range l.length).find? (fun k => !H8 m c l k) = none := List.find?_eq_none.2 fun j hj => by simpa using (j9 _ _).1 h j (by simpa using hj)
 rw [h1]
 rfl
theorem a2d (m : PMap) (c : Cll) (l : List Rec) : l8 (T6 m c l) (H8 m c l) = true := by
 rw [j9]
 intro j hj
 unfold T6 at hj
 cases h : (List.range l.length).find? fun k => !H8 m c l k with
 | none =>
  rw [h] at hj
  simp at hj
  have := List.find?_eq_none.1 h j (by simpa using hj)
  simpa using this
 | some k =>
  rw [h] at hj
  simp at hj
  have h2 := (List.find?_range_eq_some.1 h).2.2 j hj
  simpa using h2
theorem c5P {m : PMap} {c : Cll} {l : List Rec} (h : q9 m c = true) : q9 m (a1x m c l) = true := a3D h (a2d m c l)
theorem a7c {c : Cll} {o : Ord} (h : J3 c o = true) : o9 c.wlks o.who = true := by
 simp only [J3, Bool.and_eq_true] at h
 exact h.1
theorem Q7 {c : Cll} {o : Ord} (h : J3 c o = true) : ¬ j4 c.wlks o.who < 0 ∧ (nth .wlk c.wlks (j4 c.wlks o.who).toNat).seq < o.seq := by
 have h1 := a7c h
 have h2 := L7 h1
 simp only [J3, Bool.and_eq_true, decide_eq_true_eq] at h
 rw [a2Z h1] at h
 exact ⟨by omega, h.2⟩
structure CN where
 c : Cll
 n : Int
def H6 (m : PMap) (c : Cll) (l : List Rec) : CN := if q9 m c = true ∧ l.length ≤ 250 then ⟨a1x m c l, T6 m c l⟩ else ⟨O7, 0⟩
theorem a9l {m : PMap} {r : Rec} (h : D1 m r = true) (hk : r.kind = 1) : J6 r.ord = true := by
 simp only [D1, decide_eq_true_eq] at h
 have := L4.1 h.2.1
 rcases this with h | h | h
 ·exact h.2.1
 ·omega
 ·omega
theorem a5G {m : PMap} {r : Rec} (h : D1 m r = true) (hk : r.kind = 2) : H5 m r.pcl = true := by
 simp only [D1, decide_eq_true_eq] at h
 exact h.2.2 hk
end Go.Mo
