/-
  Plain models of the program's functions, with no program in sight: a1p, walkers.
-/
import Derived.Test.YtkclfaldmghkeaaGreatS4e
import Derived.Test.YtkclfaldmghkeaaGreatS5
set_option linter.unusedVariables false
set_option linter.unusedSimpArgs false
namespace Go.Mo
open Go.Sx
theorem okI {n : Int} (h : OkA (.int .i64 fun _ => n)) : -9223372036854775808 ≤ n ∧ n ≤ 9223372036854775807 := by
 cases h with
 | int _ _ h1 h2 => exact ⟨h1, h2⟩
theorem okL {t : RT} {l : List t.ty} (h : OkA (.list t fun _ => l)) (ht : t.O0 = false := by rfl) : l.length ≤ 140737488355328 := by
 cases h with
 | list _ _ h1 _ =>
  exact Nat.le_trans (Nat.le_mul_of_pos_right l.length (b2D t ht)) h1.1
theorem okB {t : RT} {l : List t.ty} (h : OkA (.list t fun _ => l)) : l.length * t.bytes ≤ 140737488355328 := by
 cases h with
 | list _ _ h1 _ => exact h1.1
theorem a0o {k : Nat} (h : 0 < k) (h2 : k ≤ 140737488355328) : IntKind.i64.wrap ((k : Int) - 1) = ((k - 1 : Nat) : Int) := by
 rw [b9 (by omega) (by omega)]; omega
theorem j3 {k : Nat} (h2 : k ≤ 140737488355328) : IntKind.i64.wrap ((k : Int) + 1) = ((k + 1 : Nat) : Int) := by
 rw [b9 (by omega) (by omega)]; omega
def m4 (k : Nat) (f : Nat → Bool) : Bool := (List.range k).all f
theorem n4 (f : Nat → Bool) : m4 0 f = true := rfl
theorem n3 (k : Nat) (f : Nat → Bool) : m4 (k + 1) f = (m4 k f && f k) := by
 simp [m4, List.range_succ]
theorem k9 (k : Nat) (f : Nat → Bool) : m4 k f = true ↔ ∀ i, i < k → f i = true := by
 simp [m4]
theorem s4 {k n : Nat} {f : Nat → Bool} (h : k < n) (hf : f k = false) : m4 n f = false := by
 cases ha : m4 n f with
 | false => rfl
 | true => rw [(k9 n f).1 ha k h] at hf; cases hf
theorem quo_in {a b : Int} (h0 : 0 ≤ a) (h1 : a ≤ 9223372036854775807) (hb : 0 < b) : IntKind.i64.wrap (a.tdiv b) = a / b := by
 rw [Int.tdiv_eq_ediv_of_nonneg h0]
 have h2 : a / b ≤ a := Int.ediv_le_self b h0
 have h3 : 0 ≤ a / b := Int.ediv_nonneg h0 (by omega)
 exact b9 (by omega) (by omega)
def inR (n a b : Int) : Bool := decide (a ≤ n ∧ n ≤ b)
def o8 (m : PMap) : Bool := decide (2 ≤ m.cells ∧ m.cells ≤ 4 ∧ 2 ≤ m.width ∧ m.width ≤ 8)
def l9 (m : PMap) (p : Int) : Int := if o8 m = true ∧ 0 ≤ p ∧ p < m.cells * m.width then p / m.width else -1
def b7 (m : PMap) (c s : Int) : Int :=
 if o8 m = true ∧ 0 ≤ c ∧ c < m.cells then (if s = 0 ∧ 0 < c then c - 1 else if s = 1 ∧ c + 1 < m.cells then c + 1 else -1) else -1
def I2 (m : PMap) (p s : Int) : Bool :=
 decide (b7 m (l9 m p) s ≠ -1 ∧ p = (if s = 0 then l9 m p * m.width else l9 m p * m.width + m.width - 1))
theorem p5 {m : PMap} : o8 m = true ↔ 2 ≤ m.cells ∧ m.cells ≤ 4 ∧ 2 ≤ m.width ∧ m.width ≤ 8 := by simp [o8]
theorem a3X {m : PMap} (h : o8 m = true) : 4 ≤ m.cells * m.width ∧ m.cells * m.width ≤ 32 := by
 rw [p5] at h
 obtain ⟨h1, h2, h3, h4⟩ := h
 constructor
 ·have := Int.mul_le_mul h1 h3 (by omega) (by omega); omega
 ·have := Int.mul_le_mul h2 h4 (by omega) (by omega); omega
theorem G7 {m : PMap} {c s : Int} (h : b7 m c s ≠ -1) : o8 m = true ∧ 0 ≤ c ∧ c < m.cells ∧ (s = 0 ∧ 0 < c ∨ s = 1 ∧ c + 1 < m.cells) := by
 unfold b7 at h
 split at h
 ·rename_i h1
  refine ⟨h1.1, h1.2.1, h1.2.2, ?_⟩
  split at h
  ·exact .inl (by assumption)
  ·split at h
   ·exact .inr (by assumption)
   ·exact absurd rfl h
 ·exact absurd rfl h
theorem I9 {m : PMap} {p : Int} (h : l9 m p ≠ -1) : o8 m = true ∧ 0 ≤ p ∧ p < m.cells * m.width ∧ l9 m p = p / m.width := by
 unfold l9 at h ⊢
 split at h
 ·rename_i h1
  rw [if_pos h1]
  exact ⟨h1.1, h1.2.1, h1.2.2, rfl⟩
 ·exact absurd rfl h
theorem b5C {m : PMap} {p : Int} (h : l9 m p ≠ -1) : 0 ≤ l9 m p * m.width ∧ l9 m p * m.width ≤ p := by
 obtain ⟨h1, h2, h3, h4⟩ := I9 h
 rw [p5] at h1
 rw [h4]
 have h5 : 0 ≤ p / m.width := Int.ediv_nonneg h2 (by omega)
 exact ⟨Int.mul_nonneg h5 (by omega), Int.ediv_mul_le p (by omega)⟩
theorem edge_eq {m : PMap} {p s : Int} (h : b7 m (l9 m p) s ≠ -1) : l9 m (p + (2 * s - 1)) ≠ l9 m p ↔ p = (if s = 0 then l9 m p * m.width else l9 m p * m.width + m.width - 1) := by
 obtain ⟨h1, h2, h3, h4⟩ := G7 h
 have h5 : l9 m p ≠ -1 := by omega
 obtain ⟨_, h6, h7, h8⟩ := I9 h5
 rw [p5] at h1
 obtain ⟨c, w⟩ := m
 simp only at *
 have hw : w = 2 ∨ w = 3 ∨ w = 4 ∨ w = 5 ∨ w = 6 ∨ w = 7 ∨ w = 8 := by omega
 have hok : o8 ⟨c, w⟩ = true := by rw [p5]; exact h1
 have hc : ∀ q, l9 ⟨c, w⟩ q = if 0 ≤ q ∧ q < c * w then q / w else -1 := fun q => by simp [l9, hok]
 rw [h8] at h2 h3 h4 ⊢
 rw [hc]
 clear h hok hc h5 h8
 rcases hw with rfl | rfl | rfl | rfl | rfl | rfl | rfl <;> (rcases h4 with ⟨rfl, h4⟩ | ⟨rfl, h4⟩ <;> simp only [Int.reduceMul, Int.reduceSub, if_true, if_neg (show ¬ ((1 : Int) = 0) by decide)] <;> split <;> omega)
def a6M (w : Wlk) : Bool := decide (1 ≤ w.id ∧ w.id ≤ 9 ∧ 0 ≤ w.l7 ∧ w.l7 ≤ 99 ∧ 0 ≤ w.seq ∧ w.seq ≤ 900 ∧ 0 ≤ w.last ∧ w.last ≤ 9)
def P8 (m : PMap) (w : Wlk) : Bool := decide (1 ≤ w.id ∧ w.id ≤ 9 ∧ l9 m w.pos ≠ -1 ∧ 0 ≤ w.l7 ∧ w.l7 ≤ 99 ∧ 0 ≤ w.seq ∧ w.seq ≤ 900 ∧ 0 ≤ w.last ∧ w.last ≤ 9)
def a4l (m : PMap) (l : List Wlk) (i : Nat) : Bool := P8 m (nth .wlk l i) && (decide (i = 0) || decide ((nth .wlk l (i - 1)).id < (nth .wlk l i).id))
def z6 (m : PMap) (l : List Wlk) : Bool := m4 l.length (a4l m l)
theorem a8Q {m : PMap} {l : List Wlk} {k : Nat} (h : k < l.length) (hw : P8 m (nth .wlk l k) = false) : z6 m l = false := s4 h (by simp [a4l, hw])
theorem a7P {m : PMap} {l : List Wlk} {k : Nat} (h : k < l.length) (h0 : 0 < k) (hw : (nth .wlk l k).id ≤ (nth .wlk l (k - 1)).id) : z6 m l = false := s4 h (by
 have : ¬ (nth .wlk l (k - 1)).id < (nth .wlk l k).id := by omega
 have h1 : ¬ k = 0 := by omega
 simp [a4l, this, h1])
def flt {α : Type} (p : α → Bool) (l : List α) (k : Nat) : List α := (l.take k).filter p
theorem a6s {α : Type} (p : α → Bool) (l : List α) : flt p l 0 = [] := by simp [flt]
theorem a8K {α : Type} (p : α → Bool) (l : List α) : flt p l l.length = l.filter p := by simp [flt]
theorem a6t {α : Type} (p : α → Bool) (l : List α) (k : Nat) : (flt p l k).length ≤ k := by
 unfold flt
 exact Nat.le_trans (List.length_filter_le _ _) (by simp; omega)
theorem Q5 (t : RT) (p : t.ty → Bool) (l : List t.ty) (k : Nat) (h : k < l.length) : flt p l (k + 1) = if p (nth t l k) = true then flt p l k ++ [nth t l k] else flt p l k := by
 unfold flt
 rw [List.take_succ_eq_append_getElem h, List.filter_append, k8 t l k h]
 cases hp : p l[k] <;> simp [hp]
def B9 (l : List Wlk) (id : Int) : List Wlk := l.filter fun w => decide (w.id ≠ id)
def N2 (l : List Wlk) (id : Int) (k : Nat) : List Wlk := flt (fun w => decide (w.id ≠ id)) l k
theorem a4k (l : List Wlk) (id : Int) : N2 l id 0 = [] := a6s _ _
theorem a5k {l : List Wlk} {id : Int} {k : Nat} (h : k = l.length) : N2 l id k = B9 l id := by subst h; exact a8K _ _
theorem a5j (l : List Wlk) (id : Int) (k : Nat) : (N2 l id k).length ≤ k := a6t _ _ _
theorem a5i {l : List Wlk} {id : Int} {k : Nat} (h : k < l.length) (hn : (nth .wlk l k).id ≠ id) : N2 l id (k + 1) = N2 l id k ++ [nth .wlk l k] := by
 unfold N2
 rw [Q5 .wlk _ _ _ h, if_pos (by simpa using hn)]
theorem a7O {l : List Wlk} {id : Int} {k : Nat} (h : k < l.length) (hn : (nth .wlk l k).id = id) : N2 l id (k + 1) = N2 l id k := by
 unfold N2
 rw [Q5 .wlk _ _ _ h, if_neg (by simp [hn])]
def idx {α : Type} (p : α → Bool) (l : List α) : Int := match l.findIdx? p with
 | some i => (i : Int)
 | none => -1
theorem a9Y {α : Type} {p : α → Bool} {l : List α} {k : Nat} (h : k < l.length) (hp : p l[k] = true) (hn : ∀ j (hj : j < k), p (l[j]'(by omega)) = false) : idx p l = k := by
 have : l.findIdx? p = some k := by
  rw [List.findIdx?_eq_some_iff_getElem]
  exact ⟨h, hp, fun j hj => by simp [hn j hj]⟩
 simp [idx, this]
theorem a1Q {α : Type} {p : α → Bool} {l : List α} (hn : ∀ j (hj : j < l.length), p l[j] = false) : idx p l = -1 := by
 have : l.findIdx? p = none := by
  rw [List.findIdx?_eq_none_iff]
  intro x hx
  obtain ⟨j, hj, rfl⟩ := List.getElem_of_mem hx
  exact hn j hj
 simp [idx, this]
theorem C6 {α : Type} (p : α → Bool) (l : List α) : idx p l = -1 ∧ (∀ x ∈ l, p x = false) ∨ ∃ k, ∃ h : k < l.length, idx p l = (k : Int) ∧ p l[k] = true ∧ ∀ j (hj : j < k), p (l[j]'(by omega)) = false := by
 unfold idx
 cases hf : l.findIdx? p with
 | none =>
  rw [List.findIdx?_eq_none_iff] at hf
  exact .inl ⟨rfl, fun x hx => by simpa using hf x hx⟩
 | some k =>
  rw [List.findIdx?_eq_some_iff_getElem] at hf
  obtain ⟨h, h1, h2⟩ := hf
  exact .inr ⟨k, h, rfl, h1, fun j hj => by simpa using h2 j hj⟩
def isId (id : Int) (w : Wlk) : Bool := decide (w.id = id)
def j7 (l : List Wlk) (id : Int) : Int := idx (isId id) l
def nid (l : List Wlk) (id : Int) (j : Nat) : Bool := !isId id (nth .wlk l j)
theorem b5F {l : List Wlk} {id : Int} {k : Nat} (h : m4 k (nid l id) = true) (hk : k < l.length) (hi : (nth .wlk l k).id = id) : j7 l id = k := by
 rw [k8 .wlk l k hk] at hi
 refine a9Y hk (by simp [isId, hi]) fun j hj => ?_
 have := (k9 k _).1 h j hj
 simp only [nid, Bool.not_eq_true'] at this
 rw [k8 .wlk l j (by omega)] at this
 exact this
theorem a9p {l : List Wlk} {id : Int} {k : Nat} (h : m4 k (nid l id) = true) (hk : k = l.length) : j7 l id = -1 := by
 subst hk
 refine a1Q fun j hj => ?_
 have := (k9 _ _).1 h j hj
 simp only [nid, Bool.not_eq_true'] at this
 rw [k8 .wlk l j hj] at this
 exact this
theorem N9 (l : List Wlk) (id : Int) : -1 ≤ j7 l id ∧ j7 l id < l.length := by
 rcases C6 (isId id) l with ⟨h, _⟩ | ⟨k, hk, h, _⟩
 ·unfold j7; rw [h]; omega
 ·unfold j7; rw [h]; omega
theorem a5K {l : List Wlk} {id : Int} (h : 0 ≤ j7 l id) : (nth .wlk l (j7 l id).toNat).id = id := by
 rcases C6 (isId id) l with ⟨h', _⟩ | ⟨k, hk, h', h2, _⟩
 ·unfold j7 at h; omega
 ·unfold j7; rw [h']
  rw [Int.toNat_natCast, k8 .wlk l k hk]
  simpa [isId] using h2
def A3 (l : List Wlk) (id : Int) : Wlk := if 0 ≤ j7 l id then nth .wlk l (j7 l id).toNat else ⟨0, 0, 0, 0, 0⟩
def o7 (l : List Wlk) (id : Int) : Bool := decide (0 ≤ j7 l id)
def K6 (o : Ord) : Bool := decide (1 ≤ o.who ∧ o.who ≤ 9 ∧ 1 ≤ o.seq ∧ o.seq ≤ 900 ∧
 ((o.kind = 1 ∧ 0 ≤ o.dest ∧ o.dest ≤ 1 ∧ o.n = 0) ∨ (o.kind = 2 ∧ 1 ≤ o.dest ∧ o.dest ≤ 9 ∧ o.dest ≠ o.who ∧ 1 ≤ o.n ∧ o.n ≤ 9) ∨ ((o.kind = 3 ∨ o.kind = 4) ∧ o.dest = 0 ∧ 1 ≤ o.n ∧ o.n ≤ 9) ∨
  (o.kind = 5 ∧ 0 ≤ o.dest ∧ o.dest ≤ 1 ∧ 1 ≤ o.n ∧ o.n ≤ 9) ∨ (o.kind = 6 ∧ o.dest = 0 ∧ o.n = 0)))
def a2O (w : Wlk) : Bool := decide (w.id = 0 ∧ w.pos = 0 ∧ w.l7 = 0 ∧ w.seq = 0 ∧ w.last = 0)
def a7i (p : Pcl) : Bool := decide (0 ≤ p.n ∧ p.n ≤ 4999 ∧ (p.kind = 1 ∧ p.l7 = 0 ∨ p.kind = 2 ∧ a2O p.wlk = true ∧ 1 ≤ p.l7 ∧ p.l7 ≤ 9))
def I3 (m : PMap) (p : Pcl) : Bool := decide (o8 m = true ∧ 0 ≤ p.n ∧ p.n ≤ 4999 ∧ (p.kind = 1 ∧ P8 m p.wlk = true ∧ p.l7 = 0 ∨ p.kind = 2 ∧ a2O p.wlk = true ∧ 1 ≤ p.l7 ∧ p.l7 ≤ 9))
def a2K (m : PMap) (l : List Pcl) (next : Int) (i : Nat) : Bool := I3 m (nth .pcl l i) && decide ((nth .pcl l i).n = next - l.length + i)
def s5 (m : PMap) (l : List Pcl) (next : Int) : Bool := decide (o8 m = true ∧ 0 ≤ next ∧ next ≤ 5000 ∧ (l.length : Int) ≤ next) && m4 l.length (a2K m l next)
theorem a4q {m : PMap} {l : List Pcl} {next : Int} {k : Nat} (h : k < l.length) (hw : I3 m (nth .pcl l k) = false) : s5 m l next = false := by
 have := s4 (f := a2K m l next) h (by simp [a2K, hw])
 simp [s5, this]
theorem a3g {m : PMap} {l : List Pcl} {next : Int} {k : Nat} (h : k < l.length) (hw : ¬ (nth .pcl l k).n = next - l.length + k) : s5 m l next = false := by
 have := s4 (f := a2K m l next) h (by simp [a2K, hw])
 simp [s5, this]
def y5 (l : List Pcl) (n : Int) : List Pcl := l.filter fun p => decide (n ≤ p.n)
def J9 (l : List Pcl) (n : Int) (k : Nat) : List Pcl := flt (fun p => decide (n ≤ p.n)) l k
theorem a3h (l : List Pcl) (n : Int) : J9 l n 0 = [] := a6s _ _
theorem a4t {l : List Pcl} {n : Int} {k : Nat} (h : k = l.length) : J9 l n k = y5 l n := by subst h; exact a8K _ _
theorem a4s (l : List Pcl) (n : Int) (k : Nat) : (J9 l n k).length ≤ k := a6t _ _ _
theorem a4r {l : List Pcl} {n : Int} {k : Nat} (h : k < l.length) (hn : n ≤ (nth .pcl l k).n) : J9 l n (k + 1) = J9 l n k ++ [nth .pcl l k] := by
 unfold J9
 rw [Q5 .pcl _ _ _ h, if_pos (by simpa using hn)]
theorem a5N {l : List Pcl} {n : Int} {k : Nat} (h : k < l.length) (hn : (nth .pcl l k).n < n) : J9 l n (k + 1) = J9 l n k := by
 unfold J9
 rw [Q5 .pcl _ _ _ h, if_neg (by simpa using hn)]
structure CllB (c : Cll) : Prop where
 w : c.wlks.length * 40 ≤ 140737488355328
 o : c.outs.length * 24 ≤ 140737488355328
 oi : ∀ i, i < c.outs.length → (nth .pcls c.outs i).length * 64 ≤ 140737488355328
 n : c.next.length * 8 ≤ 140737488355328
 i : c.ins.length * 8 ≤ 140737488355328
 cell : -9223372036854775808 ≤ c.cell ∧ c.cell ≤ 9223372036854775807
 ground : -9223372036854775808 ≤ c.ground ∧ c.ground ≤ 9223372036854775807
theorem a9J {c : Cll} (h : ∀ a ∈ (PT.row .cll).encA (fun _ => c), OkA a) : CllB c := by
 have h1 := okI (h _ (.head _))
 have h2 := okB (h _ (.tail _ (.head _)))
 have h3 := okI (h _ (.tail _ (.tail _ (.head _))))
 have h4 := h _ (.tail _ (.tail _ (.tail _ (.head _))))
 have h5 := okB (h _ (.tail _ (.tail _ (.tail _ (.tail _ (.head _))))))
 have h6 := okB (h _ (.tail _ (.tail _ (.tail _ (.tail _ (.tail _ (.head _)))))))
 refine ⟨h2, okB h4, fun i hi => ?_, h5, h6, h1, h3⟩
 cases h4 with
 | list _ _ _ g =>
  have := g i 0 _ hi rfl
  exact okB this
theorem a6Q (t : RT) (l : List t.ty) (k : Nat) (h : k < l.length) : l.take (k + 1) = l.take k ++ [nth t l k] := by
 rw [List.take_succ_eq_append_getElem h, k8 t l k h]
def pre {α : Type} (l : List α) (k : Nat) : List α := l.take k
theorem Y7 {α : Type} (l : List α) : pre l 0 = [] := by simp [pre]
theorem a0X {α : Type} {l : List α} {k : Nat} (h : k = l.length) : pre l k = l := by subst h; simp [pre]
theorem G6 (t : RT) {l : List t.ty} {k : Nat} (h : k < l.length) : pre l (k + 1) = pre l k ++ [nth t l k] := a6Q t l k h
theorem a0W {α : Type} (l : List α) (k : Nat) : (pre l k).length ≤ k := by simp [pre]; omega
def a0Y (m : PMap) (there : Int) (l : List Pcl) (i : Nat) : Bool := decide ((nth .pcl l i).kind = 1 → l9 m (nth .pcl l i).wlk.pos = there)
def T7 (m : PMap) (c : Cll) (s : Nat) : Bool := decide (s5 m (nth .pcls c.outs s) (nth .int c.next s) = true ∧ 0 ≤ nth .int c.ins s ∧ nth .int c.ins s ≤ 5000 ∧ (b7 m c.cell s = -1 → nth .int c.next s = 0 ∧ nth .int c.ins s = 0))
def J4 (m : PMap) (c : Cll) (s : Nat) : Bool := T7 m c s && m4 (nth .pcls c.outs s).length (a0Y m (b7 m c.cell s) (nth .pcls c.outs s))
def a2H (m : PMap) (c : Cll) (i : Nat) : Bool := decide (l9 m (nth .wlk c.wlks i).pos = c.cell)
def Y2 (m : PMap) (c : Cll) : Bool := decide (z6 m c.wlks = true ∧ o8 m = true ∧ 0 ≤ c.cell ∧ c.cell < m.cells ∧ 0 ≤ c.ground ∧ c.ground ≤ 900 ∧ c.outs.length = 2 ∧ c.next.length = 2 ∧ c.ins.length = 2)
def r7 (m : PMap) (c : Cll) : Bool := Y2 m c && m4 c.wlks.length (a2H m c) && m4 2 (J4 m c)
theorem b0F {m : PMap} {c : Cll} {k : Nat} (h : k < c.wlks.length) (hw : ¬ l9 m (nth .wlk c.wlks k).pos = c.cell) : r7 m c = false := by
 have := s4 (f := a2H m c) h (by simp [a2H, hw])
 simp [r7, this]
theorem b0E {m : PMap} {c : Cll} {k : Nat} (h : k < 2) (hw : J4 m c k = false) : r7 m c = false := by
 have := s4 (f := J4 m c) h hw
 simp [r7, this]
theorem a8r {m : PMap} {c : Cll} {s k : Nat} (h : k < (nth .pcls c.outs s).length) (h1 : (nth .pcl (nth .pcls c.outs s) k).kind = 1) (hw : ¬ l9 m (nth .pcl (nth .pcls c.outs s) k).wlk.pos = b7 m c.cell s) : J4 m c s = false := by
 have := s4 (f := a0Y m (b7 m c.cell s) (nth .pcls c.outs s)) h (by simp [a0Y, h1, hw])
 simp [J4, this]
theorem b1c {m : PMap} {l : List Pcl} {n : Int} (h : s5 m l n = true) : (l.length : Int) ≤ n := by
 simp [s5] at h
 omega
theorem b1k {m : PMap} {c : Cll} {s : Nat} (h : T7 m c s = true) (hn : b7 m c.cell s = -1) : J4 m c s = true := by
 have h' := h
 simp only [T7, decide_eq_true_eq] at h'
 obtain ⟨h1, _, _, h4⟩ := h'
 have h5 := b1c h1
 have h6 : @Eq Int (nth .int c.next s) 0 := (h4 hn).1
 rw [h6] at h5
 have : (nth .pcls c.outs s).length = 0 := by omega
 simp [J4, h, this, n4]
def b9F (m : PMap) (c : Cll) (s k : Nat) : Prop := s < 2 ∧ Y2 m c = true ∧ m4 c.wlks.length (a2H m c) = true ∧ m4 s (J4 m c) = true ∧ T7 m c s = true ∧ k ≤ (nth .pcls c.outs s).length ∧ m4 k (a0Y m (b7 m c.cell s) (nth .pcls c.outs s)) = true
theorem a5a {m : PMap} {c : Cll} (h : r7 m c = true) : Y2 m c = true ∧ m4 c.wlks.length (a2H m c) = true ∧ m4 2 (J4 m c) = true := by
 simpa [r7, and_assoc] using h
theorem n0 {m : PMap} {c : Cll} (h : r7 m c = true) : z6 m c.wlks = true ∧ o8 m = true ∧ 0 ≤ c.cell ∧ c.cell < m.cells ∧ 0 ≤ c.ground ∧ c.ground ≤ 900 ∧ c.outs.length = 2 ∧ c.next.length = 2 ∧ c.ins.length = 2 := by
 have := (a5a h).1
 simpa [Y2] using this
theorem H5 {m : PMap} {w : Wlk} : P8 m w = true ↔ (1 ≤ w.id ∧ w.id ≤ 9 ∧ l9 m w.pos ≠ -1 ∧ 0 ≤ w.l7 ∧ w.l7 ≤ 99 ∧ 0 ≤ w.seq ∧ w.seq ≤ 900 ∧ 0 ≤ w.last ∧ w.last ≤ 9) := by simp [P8]
theorem a6N {m : PMap} {l : List Wlk} (h : z6 m l = true) {i : Nat} (hi : i < l.length) : P8 m (nth .wlk l i) = true := by
 have := (k9 _ _).1 h i hi
 simp [a4l] at this
 exact this.1
theorem b5B {m : PMap} {p : Int} (h : l9 m p ≠ -1) : 0 ≤ p ∧ p < 32 := by
 obtain ⟨h1, h2, h3, _⟩ := I9 h
 have := (a3X h1).2
 omega
theorem H9 {m : PMap} {c : Cll} (h : r7 m c = true) {i : Nat} (hi : i < c.wlks.length) :
  (1 ≤ (nth .wlk c.wlks i).id ∧ (nth .wlk c.wlks i).id ≤ 9) ∧ (0 ≤ (nth .wlk c.wlks i).pos ∧ (nth .wlk c.wlks i).pos < 32) ∧ (0 ≤ (nth .wlk c.wlks i).l7 ∧ (nth .wlk c.wlks i).l7 ≤ 99) ∧
   (0 ≤ (nth .wlk c.wlks i).seq ∧ (nth .wlk c.wlks i).seq ≤ 900) ∧ (0 ≤ (nth .wlk c.wlks i).last ∧ (nth .wlk c.wlks i).last ≤ 9) ∧ l9 m (nth .wlk c.wlks i).pos = c.cell := by
 obtain ⟨h1, h2, _⟩ := a5a h
 have h3 := H5.1 (a6N (n0 h).1 hi)
 have h4 := (k9 _ _).1 h2 i hi
 simp [a2H] at h4
 have h5 := b5B h3.2.2.1
 exact ⟨⟨h3.1, h3.2.1⟩, h5, ⟨h3.2.2.2.1, h3.2.2.2.2.1⟩, ⟨h3.2.2.2.2.2.1, h3.2.2.2.2.2.2.1⟩, h3.2.2.2.2.2.2.2, h4⟩
theorem C5 {m : PMap} {c : Cll} (h : r7 m c = true) {s : Nat} (hs : s < 2) :
  (0 ≤ nth .int c.next s ∧ nth .int c.next s ≤ 5000) ∧ (0 ≤ nth .int c.ins s ∧ nth .int c.ins s ≤ 5000) ∧ ((nth .pcls c.outs s).length : Int) ≤ nth .int c.next s ∧ s5 m (nth .pcls c.outs s) (nth .int c.next s) = true := by
 obtain ⟨_, _, h3⟩ := a5a h
 have h4 := (k9 _ _).1 h3 s hs
 simp only [J4, T7, Bool.and_eq_true, decide_eq_true_eq] at h4
 have h5 := h4.1.1
 simp only [s5, Bool.and_eq_true, decide_eq_true_eq] at h5
 exact ⟨⟨h5.1.2.1, h5.1.2.2.1⟩, ⟨h4.1.2.1, h4.1.2.2.1⟩, h5.1.2.2.2, h4.1.1⟩
theorem H8 {o : Ord} : K6 o = true ↔ (1 ≤ o.who ∧ o.who ≤ 9 ∧ 1 ≤ o.seq ∧ o.seq ≤ 900 ∧
 ((o.kind = 1 ∧ 0 ≤ o.dest ∧ o.dest ≤ 1 ∧ o.n = 0) ∨ (o.kind = 2 ∧ 1 ≤ o.dest ∧ o.dest ≤ 9 ∧ o.dest ≠ o.who ∧ 1 ≤ o.n ∧ o.n ≤ 9) ∨ ((o.kind = 3 ∨ o.kind = 4) ∧ o.dest = 0 ∧ 1 ≤ o.n ∧ o.n ≤ 9) ∨
  (o.kind = 5 ∧ 0 ≤ o.dest ∧ o.dest ≤ 1 ∧ 1 ≤ o.n ∧ o.n ≤ 9) ∨ (o.kind = 6 ∧ o.dest = 0 ∧ o.n = 0))) := by simp [K6]
theorem m5 (t : RT) {l : List t.ty} {i : Nat} {x : t.ty} (h : i < l.length) : nth t (l.set i x) i = x := by
 simp [nth, List.getD, h]
theorem o9 (t : RT) {l : List t.ty} {i j : Nat} {x : t.ty} (h : i ≠ j) : nth t (l.set i x) j = nth t l j := by
 simp [nth, List.getD, List.getElem?_set_ne h]
theorem B2 (t : RT) (l : Th (List t.ty)) (i : Th Int) (e : Th t.ty) (u : Unit) : A1 t l i e u = (l ()).set (i ()).toNat (e ()) := rfl
theorem E9 {l : List Wlk} {id : Int} (h : ¬ j7 l id < 0) : (j7 l id).toNat < l.length := by
 have := N9 l id
 omega
theorem a3f {l : List Wlk} {a b : Int} (ha : ¬ j7 l a < 0) (hb : ¬ j7 l b < 0) (h : b ≠ a) : (j7 l a).toNat ≠ (j7 l b).toNat := by
 intro he
 have h1 := a5K (l := l) (id := a) (by omega)
 have h2 := a5K (l := l) (id := b) (by omega)
 rw [he, h2] at h1
 exact h h1
theorem a1K {o : Ord} (h : K6 o = true) (h2 : o.kind = 2) : o.dest ≠ o.who := by
 rw [H8] at h
 omega
theorem a6V {m : PMap} {c : Cll} {o : Ord} {i : Nat} (h : r7 m c = true) (hi : i < c.wlks.length) (ho : K6 o = true) (hk : o.kind = 1) : IntKind.i64.wrap ((nth .wlk c.wlks i).pos + (2 * o.dest - 1)) = (nth .wlk c.wlks i).pos + (2 * o.dest - 1) := by
 have h1 := H9 h hi
 rw [H8] at ho
 exact b9 (by omega) (by omega)
theorem a5t {α : Type} {l : List α} {i j : Nat} {a b c : α} (h : i ≠ j) : ((l.set i a).set j b).set i c = (l.set j b).set i c := by
 rw [List.set_comm _ _ h, List.set_set]
theorem b2e {α : Type} {p : α → Bool} : ∀ {l k : List α}, l.map p = k.map p → idx p l = idx p k := by
 intro l k h
 have h2 : ∀ (l : List α), l.findIdx? p = (l.map p).findIdx? id := by
  intro l
  induction l with
  | nil => rfl
  | cons x r ih => simp only [List.map_cons, List.findIdx?_cons, id, ih]
 unfold idx
 rw [h2 l, h2 k, h]
theorem a6f {α β : Type} (f : α → β) {l : List α} {i : Nat} {x : α} (h : ∀ y, l[i]? = some y → f x = f y) : (l.set i x).map f = l.map f := by
 apply List.ext_getElem?
 intro j
 by_cases hj : i = j
 ·subst hj
  simp only [List.getElem?_map, List.getElem?_set_self']
  cases hy : l[i]? with
  | none => simp
  | some y => simp [h y hy]
 ·simp [List.getElem?_set_ne hj]
theorem a3Y {l : List Wlk} {i : Nat} {w : Wlk} {id : Int} (h : w.id = (nth .wlk l i).id) : j7 (l.set i w) id = j7 l id := by
 unfold j7
 refine b2e (a6f _ fun y hy => ?_)
 have : nth .wlk l i = y := by simp [nth, List.getD, hy]
 rw [this] at h
 simp [isId, h]
structure CD where
 c : Cll
 code : Int
def E3 (c : Cll) (i : Nat) (w : Wlk) (g : Int) (code : Int) : CD := ⟨⟨c.cell, c.wlks.set i ⟨w.id, w.pos, w.l7, w.seq, code⟩, g, c.outs, c.next, c.ins⟩, code⟩
def B4 (c : Cll) (s : Nat) (p : Pcl) : List (List Pcl) := c.outs.set s (nth .pcls c.outs s ++ [⟨nth .int c.next s, p.kind, p.wlk, p.l7⟩])
def E2 (c : Cll) (s : Nat) : List Int := c.next.set s (nth .int c.next s + 1)
def X0 (m : PMap) (c : Cll) (i : Nat) (w : Wlk) (o : Ord) : CD :=
 if l9 m (w.pos + (2 * o.dest - 1)) = -1 then E3 c i w c.ground 2
 else if l9 m (w.pos + (2 * o.dest - 1)) = c.cell then E3 c i ⟨w.id, w.pos + (2 * o.dest - 1), w.l7, w.seq, w.last⟩ c.ground 1
 else if nth .int c.next o.dest.toNat = 5000 then E3 c i w c.ground 2
 else ⟨⟨c.cell, B9 (c.wlks.set i w) o.who, c.ground, B4 c o.dest.toNat ⟨0, 1, ⟨w.id, w.pos + (2 * o.dest - 1), w.l7, w.seq, 1⟩, 0⟩, E2 c o.dest.toNat, c.ins⟩, 1⟩
def X2 (c : Cll) (i : Nat) (w : Wlk) (o : Ord) : CD :=
 if j7 c.wlks o.dest < 0 then E3 c i w c.ground 4
 else if w.l7 < o.n then E3 c i w c.ground 3
 else if 99 < (nth .wlk c.wlks (j7 c.wlks o.dest).toNat).l7 + o.n then E3 c i w c.ground 5
 else
  let v := nth .wlk c.wlks (j7 c.wlks o.dest).toNat
  ⟨⟨c.cell, (c.wlks.set (j7 c.wlks o.dest).toNat ⟨v.id, v.pos, v.l7 + o.n, v.seq, v.last⟩).set i ⟨w.id, w.pos, w.l7 - o.n, w.seq, 1⟩, c.ground, c.outs, c.next, c.ins⟩, 1⟩
def X3 (c : Cll) (i : Nat) (w : Wlk) (o : Ord) : CD :=
 if w.l7 < o.n then E3 c i w c.ground 3 else if 900 < c.ground + o.n then E3 c i w c.ground 5 else E3 c i ⟨w.id, w.pos, w.l7 - o.n, w.seq, w.last⟩ (c.ground + o.n) 1
def X1 (c : Cll) (i : Nat) (w : Wlk) (o : Ord) : CD :=
 if c.ground < o.n then E3 c i w c.ground 6 else if 99 < w.l7 + o.n then E3 c i w c.ground 5 else E3 c i ⟨w.id, w.pos, w.l7 + o.n, w.seq, w.last⟩ (c.ground - o.n) 1
def P1 (m : PMap) (c : Cll) (i : Nat) (w : Wlk) (o : Ord) : CD :=
 if I2 m w.pos o.dest = false then E3 c i w c.ground 7
 else if w.l7 < o.n then E3 c i w c.ground 3
 else if nth .int c.next o.dest.toNat = 5000 then E3 c i w c.ground 5
 else ⟨⟨c.cell, c.wlks.set i ⟨w.id, w.pos, w.l7 - o.n, w.seq, 1⟩, c.ground, B4 c o.dest.toNat ⟨0, 2, ⟨0, 0, 0, 0, 0⟩, o.n⟩, E2 c o.dest.toNat, c.ins⟩, 1⟩
def M7 (m : PMap) (c : Cll) (i : Nat) (w : Wlk) (o : Ord) : CD :=
 if o.kind = 1 then X0 m c i w o
 else if o.kind = 2 then X2 c i w o
 else if o.kind = 3 then X3 c i w o
 else if o.kind = 4 then X1 c i w o
 else if o.kind = 5 then P1 m c i w o
 else E3 c i w c.ground 1
def F4 (m : PMap) (c : Cll) (o : Ord) : CD :=
 if j7 c.wlks o.who < 0 then ⟨c, 9⟩
 else
  let w := nth .wlk c.wlks (j7 c.wlks o.who).toNat
  if o.seq < w.seq then ⟨c, 8⟩
  else if o.seq = w.seq then ⟨c, w.last⟩
  else M7 m c (j7 c.wlks o.who).toNat ⟨w.id, w.pos, w.l7, o.seq, w.last⟩ o
def P7 : Cll := ⟨0, [], 0, [], [], []⟩
def Q7 (id : Int) (w : Wlk) : Bool := decide (id < w.id)
def nab (l : List Wlk) (id : Int) (j : Nat) : Bool := !Q7 id (nth .wlk l j)
def A7 (l : List Wlk) (id : Int) : Nat := if idx (Q7 id) l < 0 then l.length else (idx (Q7 id) l).toNat
def J5 (l : List Wlk) (w : Wlk) : List Wlk := insL (B9 l w.id) (A7 (B9 l w.id) w.id) [w]
theorem b7m (l : List Wlk) (id : Int) : -1 ≤ idx (Q7 id) l ∧ idx (Q7 id) l < l.length := by
 rcases C6 (Q7 id) l with ⟨h, _⟩ | ⟨k, hk, h, _⟩ <;> rw [h] <;> omega
theorem a7f (l : List Wlk) (id : Int) : A7 l id ≤ l.length := by
 have := b7m l id
 unfold A7
 split <;> omega
theorem b7n {l : List Wlk} {id : Int} {k : Nat} (h : m4 k (nab l id) = true) (hk : k < l.length) (hi : id < (nth .wlk l k).id) : idx (Q7 id) l = k := by
 rw [k8 .wlk l k hk] at hi
 refine a9Y hk (by simp [Q7, hi]) fun j hj => ?_
 have := (k9 k _).1 h j hj
 simp only [nab, Bool.not_eq_true'] at this
 rw [k8 .wlk l j (by omega)] at this
 exact this
theorem b9p {l : List Wlk} {id : Int} {k : Nat} (h : m4 k (nab l id) = true) (hk : k = l.length) : idx (Q7 id) l = -1 := by
 subst hk
 refine a1Q fun j hj => ?_
 have := (k9 _ _).1 h j hj
 simp only [nab, Bool.not_eq_true'] at this
 rw [k8 .wlk l j hj] at this
 exact this
def K5 (l : List Wlk) (w : Wlk) (k : Nat) : List Wlk := if A7 l w.id < k then insL (l.take k) (A7 l w.id) [w] else l.take k
def v8 (l : List Wlk) (w : Wlk) (k : Nat) : Bool := decide (A7 l w.id < k)
theorem b7N (l : List Wlk) (w : Wlk) : K5 l w 0 = [] := by simp [K5]
theorem c2k (l : List Wlk) (w : Wlk) (k : Nat) : (K5 l w k).length ≤ k + 1 := by
 unfold K5
 split
 ·simp [insL]; omega
 ·simp; omega
theorem b7O {l : List Wlk} {w : Wlk} {k : Nat} (h : v8 l w k = false) : (K5 l w k).length ≤ k := by
 simp only [v8, decide_eq_false_iff_not] at h
 unfold K5
 rw [if_neg h, List.length_take]
 omega
theorem a4C {l : List Wlk} {k : Nat} (h : k < l.length) : l.take (k + 1) = l.take k ++ [nth .wlk l k] := a6Q .wlk l k h
theorem b5x {l : List Wlk} {w : Wlk} {k : Nat} (h : k < l.length) (hd : v8 l w k = true) : K5 l w (k + 1) = K5 l w k ++ [nth .wlk l k] := by
 simp only [v8, decide_eq_true_eq] at hd
 unfold K5
 rw [if_pos (by omega), if_pos hd, a4C h]
 simp only [insL]
 rw [List.take_append_of_le_length (by rw [List.length_take]; omega), List.drop_append_of_le_length (by rw [List.length_take]; omega)]
 simp
theorem b7P {l : List Wlk} {w : Wlk} {k : Nat} (h : k < l.length) (hd : v8 l w k = false) (hi : w.id < (nth .wlk l k).id) : A7 l w.id = k → K5 l w (k + 1) = K5 l w k ++ [w] ++ [nth .wlk l k] := by
 intro hp
 unfold K5
 rw [if_pos (by omega), if_neg (by omega), a4C h, hp]
 simp only [insL]
 rw [List.take_append_of_le_length (by rw [List.length_take]; omega), List.drop_append_of_le_length (by rw [List.length_take]; omega)]
 simp [List.take_take]
theorem b3n {l : List Wlk} {w : Wlk} {k : Nat} (h : k < l.length) (hp : ¬ A7 l w.id < k + 1) : K5 l w (k + 1) = K5 l w k ++ [nth .wlk l k] := by
 unfold K5
 rw [if_neg hp, if_neg (by omega), a4C h]
theorem c0G {l : List Wlk} {id : Int} {k : Nat} (hk : k ≤ l.length) : ¬ A7 l id < k → m4 k (nab l id) = true := by
 intro h
 rw [k9]
 intro j hj
 simp only [nab, Bool.not_eq_true']
 rcases C6 (Q7 id) l with ⟨_, h2⟩ | ⟨i, hi, h1, h2, h3⟩
 ·rw [k8 .wlk l j (by omega)]
  exact h2 _ (List.getElem_mem _)
 ·unfold A7 at h
  rw [h1, if_neg (by omega)] at h
  rw [k8 .wlk l j (by omega)]
  exact h3 j (by omega)
theorem b5y {l : List Wlk} {w : Wlk} {k : Nat} (h : k < l.length) (hd : v8 l w k = false) (hi : w.id < (nth .wlk l k).id) : A7 l w.id = k := by
 simp only [v8, decide_eq_false_iff_not] at hd
 have := b7n (c0G (by omega) hd) h hi
 unfold A7
 rw [this, if_neg (by omega)]
 rfl
theorem b7S {l : List Wlk} {w : Wlk} {k : Nat} (h : k < l.length) (hd : v8 l w k = false) (hi : ¬ w.id < (nth .wlk l k).id) : ¬ A7 l w.id < k + 1 := by
 simp only [v8, decide_eq_false_iff_not] at hd
 intro hlt
 have he : A7 l w.id = k := by omega
 rcases C6 (Q7 w.id) l with ⟨h1, h2⟩ | ⟨i, hi', h1, h2, h3⟩
 ·unfold A7 at he
  rw [h1] at he
  simp at he
  omega
 ·unfold A7 at he
  rw [h1, if_neg (by omega)] at he
  have : i = k := by omega
  subst this
  rw [k8 .wlk l i h] at hi
  simp [Q7] at h2
  exact hi h2
theorem a7Y {l : List Wlk} {w : Wlk} {k : Nat} (h : k < l.length) (hd : v8 l w k = false) (hi : w.id < (nth .wlk l k).id) : K5 l w (k + 1) = K5 l w k ++ [w] ++ [nth .wlk l k] ∧ v8 l w (k + 1) = true := by
 have hp := b5y h hd hi
 exact ⟨b7P h hd hi hp, by simp [v8, hp]⟩
theorem a7X {l : List Wlk} {w : Wlk} {k : Nat} (h : k < l.length) (hd : v8 l w k = false) (hi : ¬ w.id < (nth .wlk l k).id) : K5 l w (k + 1) = K5 l w k ++ [nth .wlk l k] ∧ v8 l w (k + 1) = false := by
 have hp := b7S h hd hi
 exact ⟨b3n h hp, by simp [v8]; omega⟩
theorem a7W {l : List Wlk} {w : Wlk} {k : Nat} (h : k < l.length) (hd : v8 l w k = true) : K5 l w (k + 1) = K5 l w k ++ [nth .wlk l k] ∧ v8 l w (k + 1) = true := by
 refine ⟨b5x h hd, ?_⟩
 simp only [v8, decide_eq_true_eq] at hd ⊢
 omega
theorem b7R {l : List Wlk} {w : Wlk} {k : Nat} (h : k = l.length) (hd : v8 l w k = true) : K5 l w k = insL l (A7 l w.id) [w] := by
 simp only [v8, decide_eq_true_eq] at hd
 subst h
 unfold K5
 rw [if_pos hd]
 simp
theorem b7Q {l : List Wlk} {w : Wlk} {k : Nat} (h : k = l.length) (hd : v8 l w k = false) : K5 l w k ++ [w] = insL l (A7 l w.id) [w] := by
 simp only [v8, decide_eq_false_iff_not] at hd
 have h2 := a7f l w.id
 have h3 : A7 l w.id = l.length := by omega
 subst h
 unfold K5
 rw [if_neg hd, h3]
 simp [insL]
theorem b1b {l : List Wlk} {w : Wlk} {k : Nat} (h : k < l.length) (hd : v8 l w k = false) (hi : w.id < (nth .wlk l k).id) : v8 l w (k + 1) = true := (a7Y h hd hi).2
theorem b1a {l : List Wlk} {w : Wlk} {k : Nat} (h : k < l.length) (hd : v8 l w k = false) (hi : ¬ w.id < (nth .wlk l k).id) : v8 l w (k + 1) = false := (a7X h hd hi).2
theorem b0Z {l : List Wlk} {w : Wlk} {k : Nat} (h : k < l.length) (hd : v8 l w k = true) : v8 l w (k + 1) = true := (a7W h hd).2
theorem b3o (l : List Wlk) (w : Wlk) : v8 l w 0 = false := by simp [v8]
theorem b1o (l : List Wlk) (w : Wlk) : J5 l w = insL (B9 l w.id) (A7 (B9 l w.id) w.id) [w] := rfl
theorem a2d (l : List Wlk) (id : Int) : (B9 l id).length ≤ l.length := List.length_filter_le _ _
theorem a8P (l : List Wlk) (w : Wlk) : (J5 l w).length ≤ l.length + 1 := by
 have := a2d l w.id
 rw [J5, a9X (a7f _ _)]
 simp; omega
def a0P (o : Ord) : Bool := decide (o.who = 0 ∧ o.seq = 0 ∧ o.kind = 0 ∧ o.dest = 0 ∧ o.n = 0)
def a2F (p : Pcl) : Bool := decide (p.n = 0 ∧ p.kind = 0 ∧ a2O p.wlk = true ∧ p.l7 = 0)
def a3V (r : Rec) : Bool := decide ((r.kind = 1 ∧ K6 r.ord = true ∧ r.side = 0 ∧ a2F r.pcl = true ∧ r.n = 0) ∨ (r.kind = 2 ∧ (r.side = 0 ∨ r.side = 1) ∧ a0P r.ord = true ∧ r.n = 0) ∨
 (r.kind = 3 ∧ (r.side = 0 ∨ r.side = 1) ∧ 1 ≤ r.n ∧ r.n ≤ 5000 ∧ a0P r.ord = true ∧ a2F r.pcl = true))
def D4 (m : PMap) (r : Rec) : Bool := decide (o8 m = true ∧ a3V r = true ∧ (r.kind = 2 → I3 m r.pcl = true))
theorem M3 {m : PMap} {p : Pcl} : I3 m p = true ↔ o8 m = true ∧ 0 ≤ p.n ∧ p.n ≤ 4999 ∧ (p.kind = 1 ∧ P8 m p.wlk = true ∧ p.l7 = 0 ∨ p.kind = 2 ∧ a2O p.wlk = true ∧ 1 ≤ p.l7 ∧ p.l7 ≤ 9) := by simp [I3]
theorem c2m {m : PMap} {p : Pcl} (h : I3 m p = true) : o8 m = true := by simp [I3] at h; exact h.1
def K3 (c : Cll) (o : Ord) : Bool := o7 c.wlks o.who && decide ((A3 c.wlks o.who).seq < o.seq)
structure CB where
 c : Cll
 ok : Bool
def C3 (c : Cll) (s : Nat) : List Int := c.ins.set s (nth .int c.ins s + 1)
def s9 (m : PMap) (c : Cll) (s : Nat) (p : Pcl) : CB :=
 if ¬ p.n = nth .int c.ins s ∨ 900 < c.ground + p.l7 then ⟨c, false⟩
 else if p.kind = 2 then ⟨⟨c.cell, c.wlks, c.ground + p.l7, c.outs, c.next, C3 c s⟩, true⟩
 else if 0 ≤ j7 c.wlks p.wlk.id ∨ ¬ l9 m p.wlk.pos = c.cell then ⟨c, false⟩
 else ⟨⟨c.cell, J5 c.wlks p.wlk, c.ground, c.outs, c.next, C3 c s⟩, true⟩
theorem gwrap {m : PMap} {c : Cll} {p : Pcl} (h : r7 m c = true) (hp : I3 m p = true) : IntKind.i64.wrap (c.ground + p.l7) = c.ground + p.l7 := by
 have h1 := n0 h
 rw [M3] at hp
 exact b9 (by omega) (by omega)
theorem c0j {m : PMap} {c : Cll} {s : Nat} {p : Pcl} (h : (s9 m c s p).ok = false) : (s9 m c s p).c = c := by
 unfold s9 at *
 split at * <;> (try split at *) <;> (try split at *) <;> simp_all
def N0 (c : Cll) (s : Nat) (n : Int) : List (List Pcl) := c.outs.set s (y5 (nth .pcls c.outs s) n)
def D6 (c : Cll) (s : Nat) (n : Int) : CB :=
 if nth .int c.next s < n ∨ n ≤ nth .int c.next s - (nth .pcls c.outs s).length then ⟨c, false⟩ else ⟨⟨c.cell, c.wlks, c.ground, N0 c s n, c.next, c.ins⟩, true⟩
theorem rel_no {c : Cll} {s : Nat} {n : Int} (h : (D6 c s n).ok = false) : (D6 c s n).c = c := by
 unfold D6 at *
 split at * <;> simp_all
theorem R4 {m : PMap} {l : List Pcl} {n : Int} (h : s5 m l n = true) (h0 : 0 < l.length) : (nth .pcl l 0).n = n - l.length := by
 simp only [s5, Bool.and_eq_true] at h
 have := (k9 _ _).1 h.2 0 h0
 simp [a2K] at this
 exact this.2
structure AP where
 c : Cll
 code : Int
 ok : Bool
def j9 (m : PMap) (c : Cll) (r : Rec) : AP :=
 if r.kind = 1 then (if K3 c r.ord = true then ⟨(F4 m c r.ord).c, (F4 m c r.ord).code, true⟩ else ⟨c, 0, false⟩)
 else if b7 m c.cell r.side = -1 then ⟨c, 0, false⟩
 else if r.kind = 2 then ⟨(s9 m c r.side.toNat r.pcl).c, 0, (s9 m c r.side.toNat r.pcl).ok⟩
 else ⟨(D6 c r.side.toNat r.n).c, 0, (D6 c r.side.toNat r.n).ok⟩
def K4 (m : PMap) (c : Cll) (r : Rec) : AP := if D4 m r = true then j9 m c r else ⟨c, 0, false⟩
def G0 (m : PMap) (c : Cll) (r : Rec) : AP := if r7 m c = true ∧ D4 m r = true then j9 m c r else ⟨P7, 0, false⟩
def srt (l : List Wlk) : Prop := ∀ i j, i < j → j < l.length → (nth .wlk l i).id < (nth .wlk l j).id
theorem a8Z {m : PMap} {l : List Wlk} (h : z6 m l = true) : srt l := by
 intro i j hij
 induction j with
 | zero => omega
 | succ j ih =>
  intro hj
  have h1 := (k9 _ _).1 h (j + 1) hj
  simp only [a4l, Bool.and_eq_true, Bool.or_eq_true, decide_eq_true_eq, Nat.add_sub_cancel] at h1
  have h2 : (nth .wlk l j).id < (nth .wlk l (j + 1)).id := h1.2.resolve_left (by omega)
  rcases Nat.lt_or_ge i j with h3 | h3
  ·exact Int.lt_trans (ih h3 (by omega)) h2
  ·have : i = j := by omega
   subst this
   exact h2
theorem a8x {l : List Wlk} {i : Nat} {w : Wlk} (h : srt l) (hw : w.id = (nth .wlk l i).id) : srt (l.set i w) := by
 have hid : ∀ j, (nth .wlk (l.set i w) j).id = (nth .wlk l j).id := fun j => by
  by_cases hj : i = j
  ·subst hj
   by_cases hi : i < l.length
   ·rw [m5 .wlk hi, hw]
   ·rw [List.set_eq_of_length_le (by omega)]
  ·rw [o9 .wlk hj]
 intro a b hab hb
 rw [hid, hid]
 rw [List.length_set] at hb
 exact h a b hab hb
theorem a6w {l : List Wlk} {i : Nat} (h : srt l) (hi : i < l.length) : B9 l (nth .wlk l i).id = l.take i ++ l.drop (i + 1) := by
 have h1 : ∀ p : Wlk → Bool, l.filter p = (l.take i ++ (nth .wlk l i :: l.drop (i + 1))).filter p := fun p => by
  rw [k8 .wlk l i hi, List.getElem_cons_drop, List.take_append_drop]
 unfold B9
 rw [h1, List.filter_append, List.filter_cons]
 have ha : (l.take i).filter (fun w => decide (w.id ≠ (nth .wlk l i).id)) = l.take i := by
  rw [List.filter_eq_self]
  intro x hx
  obtain ⟨j, hj, rfl⟩ := List.getElem_of_mem hx
  rw [List.length_take] at hj
  have := h j i (by omega) hi
  rw [k8 .wlk l j (by omega)] at this
  simp only [List.getElem_take, ne_eq, decide_eq_true_eq]
  omega
 have hb : (l.drop (i + 1)).filter (fun w => decide (w.id ≠ (nth .wlk l i).id)) = l.drop (i + 1) := by
  rw [List.filter_eq_self]
  intro x hx
  obtain ⟨j, hj, rfl⟩ := List.getElem_of_mem hx
  rw [List.length_drop] at hj
  have := h i (i + 1 + j) (by omega) (by omega)
  rw [k8 .wlk l (i + 1 + j) (by omega)] at this
  simp only [List.getElem_drop, ne_eq, decide_eq_true_eq]
  omega
 rw [ha, hb]
 simp
theorem put_set {l : List Wlk} {i : Nat} {w : Wlk} (h : srt l) (hi : i < l.length) (hw : w.id = (nth .wlk l i).id) : J5 l w = l.set i w := by
 unfold J5
 rw [hw, a6w h hi]
 have hl : (l.take i ++ l.drop (i + 1)).length = l.length - 1 := by simp; omega
 have hpos : A7 (l.take i ++ l.drop (i + 1)) (nth .wlk l i).id = i := by
  have hb : ∀ j, j < i → Q7 (nth .wlk l i).id (nth .wlk (l.take i ++ l.drop (i + 1)) j) = false := fun j hj => by
   have h1 : nth .wlk (l.take i ++ l.drop (i + 1)) j = nth .wlk l j := by
    rw [k8 .wlk _ j (by rw [hl]; omega), k8 .wlk l j (by omega), List.getElem_append_left (by rw [List.length_take]; omega), List.getElem_take]
   rw [h1]
   have := h j i hj hi
   simp only [Q7, decide_eq_false_iff_not]
   omega
  by_cases he : i + 1 < l.length
  ·have h1 : nth .wlk (l.take i ++ l.drop (i + 1)) i = nth .wlk l (i + 1) := by
    rw [k8 .wlk _ i (by rw [hl]; omega), k8 .wlk l (i + 1) he, List.getElem_append_right (by rw [List.length_take]; omega), List.getElem_drop]
    congr 1
    rw [List.length_take]; omega
   have h2 := h i (i + 1) (by omega) he
   have : idx (Q7 (nth .wlk l i).id) (l.take i ++ l.drop (i + 1)) = i := by
    refine a9Y (by rw [hl]; omega) ?_ fun j hj => ?_
    ·rw [← k8 .wlk _ i (by rw [hl]; omega), h1]
     simpa [Q7] using h2
    ·rw [← k8 .wlk _ j (by rw [hl]; omega)]
     exact hb j hj
   unfold A7
   rw [this, if_neg (by omega)]
   rfl
  ·have : idx (Q7 (nth .wlk l i).id) (l.take i ++ l.drop (i + 1)) = -1 := by
    refine a1Q fun j hj => ?_
    rw [← k8 .wlk _ j hj]
    rw [hl] at hj
    exact hb j (by omega)
   unfold A7
   rw [this, if_pos (by omega), hl]
   omega
 rw [hpos]
 unfold insL
 rw [List.take_append_of_le_length (by rw [List.length_take]; omega), List.take_take, Nat.min_self, List.drop_append_of_le_length (by rw [List.length_take]; omega)]
 rw [show (l.take i).drop i = [] from List.drop_eq_nil_of_le (by rw [List.length_take]; omega), List.nil_append, List.set_eq_take_append_cons_drop, if_pos hi]
 simp
theorem M5 {l : List Wlk} {id : Int} (h : o7 l id = true) : (j7 l id).toNat < l.length ∧ 0 ≤ j7 l id := by
 simp only [o7, decide_eq_true_eq] at h
 have := N9 l id
 omega
theorem b4c {l : List Wlk} {id : Int} : o7 l id = false ↔ j7 l id < 0 := by
 simp only [o7, decide_eq_false_iff_not]
 omega
theorem a3y {l : List Wlk} {id : Int} (h : o7 l id = true) : A3 l id = nth .wlk l (j7 l id).toNat := by
 unfold A3
 rw [if_pos (M5 h).2]
theorem id_w {l : List Wlk} {id : Int} (h : o7 l id = true) : (nth .wlk l (j7 l id).toNat).id = id := a5K (M5 h).2
theorem c0l {l : List Wlk} {who : Int} {w : Wlk} (hs : srt l) (h : o7 l who = true) (hw : w.id = who) : J5 l w = l.set (j7 l who).toNat w :=
 put_set hs (M5 h).1 (by rw [hw, id_w h])
theorem U0 {l : List Wlk} {who x : Int} {a : Wlk} (h : o7 l who = true) (ha : a.id = who) : j7 (l.set (j7 l who).toNat a) x = j7 l x := a3Y (by rw [ha, id_w h])
theorem a4S {l : List Wlk} {who x : Int} {a : Wlk} (h : o7 l who = true) (ha : a.id = who) : o7 (l.set (j7 l who).toNat a) x = o7 l x := by
 unfold o7
 rw [U0 h ha]
theorem b3a {l : List Wlk} {who : Int} {a : Wlk} (hs : srt l) (h : o7 l who = true) (ha : a.id = who) : srt (l.set (j7 l who).toNat a) := a8x hs (by rw [ha, id_w h])
theorem find_w1 {l : List Wlk} {who : Int} {a : Wlk} (h : o7 l who = true) (ha : a.id = who) : A3 (l.set (j7 l who).toNat a) who = a := by
 rw [a3y (by rw [a4S h ha]; exact h), U0 h ha, m5 .wlk (M5 h).1]
theorem put_w1 {l : List Wlk} {who : Int} {a w : Wlk} (hs : srt l) (h : o7 l who = true) (ha : a.id = who) (hw : w.id = who) : J5 (l.set (j7 l who).toNat a) w = l.set (j7 l who).toNat w := by
 rw [c0l (b3a hs h ha) (by rw [a4S h ha]; exact h) hw, U0 h ha, List.set_set]
theorem ne_w {l : List Wlk} {who to : Int} (h : o7 l who = true) (ht : o7 l to = true) (hne : to ≠ who) : (j7 l who).toNat ≠ (j7 l to).toNat := by
 have h1 := (M5 h).2
 have h2 := (M5 ht).2
 exact a3f (by omega) (by omega) hne
theorem find_t {l : List Wlk} {who to : Int} {a : Wlk} (h : o7 l who = true) (ht : o7 l to = true) (hne : to ≠ who) (ha : a.id = who) : A3 (l.set (j7 l who).toNat a) to = nth .wlk l (j7 l to).toNat := by
 rw [a3y (by rw [a4S h ha]; exact ht), U0 h ha, o9 .wlk (ne_w h ht hne)]
theorem put_t {l : List Wlk} {who to : Int} {a v : Wlk} (hs : srt l) (h : o7 l who = true) (ht : o7 l to = true) (ha : a.id = who) (hv : v.id = to) : J5 (l.set (j7 l who).toNat a) v = (l.set (j7 l who).toNat a).set (j7 l to).toNat v := by
 rw [c0l (b3a hs h ha) (by rw [a4S h ha]; exact ht) hv, U0 h ha]
theorem a9o {l : List Wlk} {who to x : Int} {a b : Wlk} (h : o7 l who = true) (ht : o7 l to = true) (ha : a.id = who) (hb : b.id = to) : j7 ((l.set (j7 l who).toNat a).set (j7 l to).toNat b) x = j7 l x := by
 have h2 : o7 (l.set (j7 l who).toNat a) to = true := by rw [a4S h ha]; exact ht
 have h3 := U0 (x := x) h2 hb
 rw [U0 h ha, U0 h ha] at h3
 exact h3
theorem b8L {l : List Wlk} {who to x : Int} {a b : Wlk} (h : o7 l who = true) (ht : o7 l to = true) (ha : a.id = who) (hb : b.id = to) : o7 ((l.set (j7 l who).toNat a).set (j7 l to).toNat b) x = o7 l x := by
 unfold o7
 rw [a9o h ht ha hb]
theorem srt_w2 {l : List Wlk} {who to : Int} {a b : Wlk} (hs : srt l) (h : o7 l who = true) (ht : o7 l to = true) (ha : a.id = who) (hb : b.id = to) : srt ((l.set (j7 l who).toNat a).set (j7 l to).toNat b) := by
 have h2 : o7 (l.set (j7 l who).toNat a) to = true := by rw [a4S h ha]; exact ht
 have h3 := b3a (b3a hs h ha) h2 hb
 rw [U0 h ha] at h3
 exact h3
theorem find_w2 {l : List Wlk} {who to : Int} {a b : Wlk} (h : o7 l who = true) (ht : o7 l to = true) (hne : to ≠ who) (ha : a.id = who) (hb : b.id = to) : A3 ((l.set (j7 l who).toNat a).set (j7 l to).toNat b) who = a := by
 rw [a3y (by rw [b8L h ht ha hb]; exact h), a9o h ht ha hb, o9 .wlk (ne_w h ht hne).symm, m5 .wlk (M5 h).1]
theorem put_w2 {l : List Wlk} {who to : Int} {a b w : Wlk} (hs : srt l) (h : o7 l who = true) (ht : o7 l to = true) (hne : to ≠ who) (ha : a.id = who) (hb : b.id = to) (hw : w.id = who) :
  J5 ((l.set (j7 l who).toNat a).set (j7 l to).toNat b) w = (l.set (j7 l to).toNat b).set (j7 l who).toNat w := by
 rw [c0l (srt_w2 hs h ht ha hb) (by rw [b8L h ht ha hb]; exact h) hw, a9o h ht ha hb, a5t (ne_w h ht hne)]
theorem b7A {m : PMap} {c : Cll} {o : Ord} {i : Nat} (h : r7 m c = true) (hi : i < c.wlks.length) (hd : o.dest = 0) : IntKind.i64.wrap ((nth .wlk c.wlks i).pos - 1) = (nth .wlk c.wlks i).pos + (2 * o.dest - 1) := by
 have h1 := H9 h hi
 rw [b9 (by omega) (by omega)]
 omega
theorem b7z {m : PMap} {c : Cll} {o : Ord} {i : Nat} (h : r7 m c = true) (hi : i < c.wlks.length) (ho : K6 o = true) (hk : o.kind = 1) (hd : ¬ o.dest = 0) : IntKind.i64.wrap ((nth .wlk c.wlks i).pos + 1) = (nth .wlk c.wlks i).pos + (2 * o.dest - 1) := by
 have h1 := H9 h hi
 rw [H8] at ho
 rw [b9 (by omega) (by omega)]
 omega
theorem has_out (l : List Wlk) (id : Int) : o7 (B9 l id) id = false := by
 rw [b4c]
 have : idx (isId id) (B9 l id) = -1 := by
  refine a1Q fun j hj => ?_
  have h1 : ∀ w ∈ B9 l id, isId id w = false := fun w hw => by
   simp only [B9, List.mem_filter, decide_eq_true_eq] at hw
   simpa [isId] using hw.2
  exact h1 _ (List.getElem_mem hj)
 unfold j7
 rw [this]
 omega
theorem b9D {l : List Wlk} (h : srt l) (h1 : ∀ i, i < l.length → 1 ≤ (nth .wlk l i).id ∧ (nth .wlk l i).id ≤ 9) : l.length ≤ 9 := by
 have hg : ∀ i, i < l.length → (i : Int) + 1 ≤ (nth .wlk l i).id := by
  intro i
  induction i with
  | zero => intro hi; have := (h1 0 hi).1; simpa using this
  | succ i ih =>
   intro hi
   have h2 := ih (by omega)
   have h3 := h i (i + 1) (by omega) hi
   push_cast
   omega
 rcases Nat.lt_or_ge 9 l.length with hlt | hge
 ·have h2 := hg (l.length - 1) (by omega)
  have h3 := (h1 (l.length - 1) (by omega)).2
  omega
 ·exact hge
theorem a7H {m : PMap} {c : Cll} (h : r7 m c = true) : srt c.wlks := a8Z (n0 h).1
theorem X4 {m : PMap} {c : Cll} (h : r7 m c = true) : c.wlks.length ≤ 9 := b9D (a7H h) fun i hi => (H9 h hi).1
theorem M1 {r : Rec} : a3V r = true ↔ ((r.kind = 1 ∧ K6 r.ord = true ∧ r.side = 0 ∧ (r.pcl.n = 0 ∧ r.pcl.kind = 0 ∧ (r.pcl.wlk.id = 0 ∧ r.pcl.wlk.pos = 0 ∧ r.pcl.wlk.l7 = 0 ∧ r.pcl.wlk.seq = 0 ∧ r.pcl.wlk.last = 0) ∧ r.pcl.l7 = 0) ∧ r.n = 0) ∨
  (r.kind = 2 ∧ (r.side = 0 ∨ r.side = 1) ∧ (r.ord.who = 0 ∧ r.ord.seq = 0 ∧ r.ord.kind = 0 ∧ r.ord.dest = 0 ∧ r.ord.n = 0) ∧ r.n = 0) ∨
  (r.kind = 3 ∧ (r.side = 0 ∨ r.side = 1) ∧ 1 ≤ r.n ∧ r.n ≤ 5000 ∧ (r.ord.who = 0 ∧ r.ord.seq = 0 ∧ r.ord.kind = 0 ∧ r.ord.dest = 0 ∧ r.ord.n = 0) ∧ (r.pcl.n = 0 ∧ r.pcl.kind = 0 ∧ (r.pcl.wlk.id = 0 ∧ r.pcl.wlk.pos = 0 ∧ r.pcl.wlk.l7 = 0 ∧ r.pcl.wlk.seq = 0 ∧ r.pcl.wlk.last = 0) ∧ r.pcl.l7 = 0))) := by
 simp [a3V, a0P, a2F, a2O]
theorem n6 (t : RT) {l : List t.ty} {i : Nat} (h : i < l.length) : nth t l i ∈ l := by rw [k8 t l i h]; exact List.getElem_mem h
theorem a1c (t : RT) {l : List t.ty} {x : t.ty} (h : x ∈ l) : ∃ i, i < l.length ∧ nth t l i = x := by
 obtain ⟨i, hi, rfl⟩ := List.getElem_of_mem h
 exact ⟨i, hi, k8 t l i hi⟩
def ids (a b : Wlk) : Prop := a.id < b.id
theorem srt_pw {l : List Wlk} : srt l ↔ l.Pairwise ids := by
 rw [List.pairwise_iff_getElem]
 constructor
 ·intro h i j hi hj hij
  have := h i j hij hj
  rw [k8 .wlk l i hi, k8 .wlk l j hj] at this
  exact this
 ·intro h i j hij hj
  rw [k8 .wlk l i (by omega), k8 .wlk l j hj]
  exact h i j (by omega) hj hij
theorem a0u {m : PMap} {l : List Wlk} : z6 m l = true ↔ (∀ w ∈ l, P8 m w = true) ∧ srt l := by
 constructor
 ·intro h
  refine ⟨fun w hw => ?_, a8Z h⟩
  obtain ⟨i, hi, rfl⟩ := a1c .wlk hw
  exact a6N h hi
 ·rintro ⟨h1, h2⟩
  unfold z6
  rw [k9]
  intro i hi
  simp only [a4l, Bool.and_eq_true, Bool.or_eq_true, decide_eq_true_eq]
  refine ⟨h1 _ (n6 .wlk hi), ?_⟩
  rcases Nat.eq_zero_or_pos i with h0 | h0
  ·exact .inl h0
  ·exact .inr (h2 (i - 1) i (by omega) hi)
def b4Y (m : PMap) (cell : Int) (l : List Pcl) (n i : Int) (s : Nat) : Prop :=
 s5 m l n = true ∧ 0 ≤ i ∧ i ≤ 5000 ∧ (b7 m cell s = -1 → n = 0 ∧ i = 0) ∧ ∀ p ∈ l, p.kind = 1 → l9 m p.wlk.pos = b7 m cell s
theorem b7f {m : PMap} {c : Cll} {s : Nat} : J4 m c s = true ↔ b4Y m c.cell (nth .pcls c.outs s) (nth .int c.next s) (nth .int c.ins s) s := by
 simp only [J4, T7, b4Y, Bool.and_eq_true, decide_eq_true_eq, k9, a0Y]
 constructor
 ·rintro ⟨⟨h1, h2, h3, h4⟩, h5⟩
  refine ⟨h1, h2, h3, h4, fun p hp hk => ?_⟩
  obtain ⟨i, hi, rfl⟩ := a1c .pcl hp
  exact h5 i hi hk
 ·rintro ⟨h1, h2, h3, h4, h5⟩
  exact ⟨⟨h1, h2, h3, h4⟩, fun i hi hk => h5 _ (n6 .pcl hi) hk⟩
theorem C7 {m : PMap} {c : Cll} : r7 m c = true ↔ (∀ w ∈ c.wlks, P8 m w = true ∧ l9 m w.pos = c.cell) ∧ srt c.wlks ∧ o8 m = true ∧ 0 ≤ c.cell ∧ c.cell < m.cells ∧ 0 ≤ c.ground ∧ c.ground ≤ 900 ∧ c.outs.length = 2 ∧ c.next.length = 2 ∧ c.ins.length = 2 ∧
  ∀ s, s < 2 → b4Y m c.cell (nth .pcls c.outs s) (nth .int c.next s) (nth .int c.ins s) s := by
 simp only [r7, Y2, Bool.and_eq_true, decide_eq_true_eq, k9, a0u, a2H, b7f]
 constructor
 ·rintro ⟨⟨⟨⟨h1, h2⟩, h3, h4, h5, h6, h7, h8, h9, h10⟩, h11⟩, h12⟩
  refine ⟨fun w hw => ⟨h1 w hw, ?_⟩, h2, h3, h4, h5, h6, h7, h8, h9, h10, h12⟩
  obtain ⟨i, hi, rfl⟩ := a1c .wlk hw
  exact h11 i hi
 ·rintro ⟨h1, h2, h3, h4, h5, h6, h7, h8, h9, h10, h12⟩
  exact ⟨⟨⟨⟨fun w hw => (h1 w hw).1, h2⟩, h3, h4, h5, h6, h7, h8, h9, h10⟩, fun i hi => (h1 _ (n6 .wlk hi)).2⟩, h12⟩
theorem J1 {m : PMap} {l : List Pcl} {n : Int} : s5 m l n = true ↔ o8 m = true ∧ 0 ≤ n ∧ n ≤ 5000 ∧ (l.length : Int) ≤ n ∧ ∀ i, i < l.length → I3 m (nth .pcl l i) = true ∧ (nth .pcl l i).n = n - l.length + i := by
 simp [s5, k9, a2K, and_assoc]
theorem a4N (t : RT) {l r : List t.ty} {i : Nat} (h : i < l.length) : nth t (l ++ r) i = nth t l i := by
 rw [k8 t (l ++ r) i (by rw [List.length_append]; omega), k8 t l i h, List.getElem_append_left h]
theorem a9K (t : RT) {l : List t.ty} {x : t.ty} : nth t (l ++ [x]) l.length = x := by
 rw [k8 t (l ++ [x]) l.length (by simp)]
 simp
theorem c2Y (t : RT) {l : List t.ty} {k i : Nat} (h : k + i < l.length) : nth t (l.drop k) i = nth t l (k + i) := by
 rw [k8 t (l.drop k) i (by rw [List.length_drop]; omega), k8 t l (k + i) h, List.getElem_drop]
theorem a9r {m : PMap} {l : List Pcl} {n : Int} {p : Pcl} (h : s5 m l n = true) (hn : n < 5000) (hp : I3 m p = true) (he : p.n = n) : s5 m (l ++ [p]) (n + 1) = true := by
 rw [J1] at h ⊢
 obtain ⟨h1, h2, h3, h4, h5⟩ := h
 have hl : (l ++ [p]).length = l.length + 1 := by simp
 refine ⟨h1, by omega, by omega, by rw [hl]; omega, fun i hi => ?_⟩
 rw [hl] at hi ⊢
 by_cases hlt : i < l.length
 ·rw [a4N .pcl hlt]
  have := h5 i hlt
  refine ⟨this.1, by rw [this.2]; omega⟩
 ·have : i = l.length := by omega
  subst this
  have he2 : nth .pcl (l ++ [p]) l.length = p := a9K .pcl
  rw [he2]
  exact ⟨hp, by rw [he]; omega⟩
theorem a9s {m : PMap} {l : List Pcl} {n : Int} {k : Nat} (h : s5 m l n = true) (hk : k ≤ l.length) : s5 m (l.drop k) n = true := by
 rw [J1] at h ⊢
 obtain ⟨h1, h2, h3, h4, h5⟩ := h
 have hl : (l.drop k).length = l.length - k := List.length_drop
 refine ⟨h1, h2, h3, by rw [hl]; omega, fun i hi => ?_⟩
 rw [hl] at hi ⊢
 rw [c2Y .pcl (by omega)]
 have := h5 (k + i) (by omega)
 refine ⟨this.1, by rw [this.2]; omega⟩
theorem b2p : ∀ (l : List Pcl) (b x : Int), (∀ i, i < l.length → (nth .pcl l i).n = b + i) → b ≤ x → y5 l x = l.drop (x - b).toNat
 | [], b, x, _, _ => by simp [y5]
 | p :: r, b, x, h, hx => by
  have h0 : p.n = b := by simpa [nth] using h 0 (by simp)
  have hr : ∀ i, i < r.length → (nth .pcl r i).n = (b + 1) + i := fun i hi => by
   have := h (i + 1) (by simpa using hi)
   have he : nth .pcl (p :: r) (i + 1) = nth .pcl r i := by simp [nth]
   rw [he] at this
   rw [this]
   omega
  by_cases hlt : b < x
  ·have ih := b2p r (b + 1) x hr (by omega)
   have e1 : (x - b).toNat = (x - (b + 1)).toNat + 1 := by omega
   rw [e1, List.drop_succ_cons, ← ih]
   simp only [y5]
   rw [List.filter_cons_of_neg]
   simp; omega
  ·have e1 : (x - b).toNat = 0 := by omega
   rw [e1, List.drop_zero]
   unfold y5
   rw [List.filter_eq_self]
   intro q hq
   obtain ⟨i, hi, rfl⟩ := a1c .pcl hq
   rw [h i hi]
   simp; omega
theorem a5M {m : PMap} {l : List Pcl} {n x : Int} (h : s5 m l n = true) (hx : n - l.length ≤ x) : y5 l x = l.drop (x - (n - l.length)).toNat :=
 b2p l (n - l.length) x (fun i hi => (((J1.1 h).2.2.2.2 i hi).2)) hx
theorem a9a {l : List Wlk} (h : srt l) (p : Wlk → Bool) : srt (l.filter p) := by
 rw [srt_pw] at *
 exact h.filter p
theorem put_pw {l : List Wlk} {w : Wlk} (h : srt l) (hn : ∀ x ∈ l, x.id ≠ w.id) : srt (insL l (A7 l w.id) [w]) := by
 have hle := a7f l w.id
 have h1 : ∀ x ∈ l.take (A7 l w.id), x.id < w.id := fun x hx => by
  have hxl := List.mem_of_mem_take hx
  obtain ⟨j, hj, rfl⟩ := List.getElem_of_mem hx
  rw [List.length_take] at hj
  have := (k9 _ _).1 (c0G hle (Nat.lt_irrefl (A7 l w.id))) j (by omega)
  rw [List.getElem_take] at hxl ⊢
  simp only [nab, Q7, Bool.not_eq_true', decide_eq_false_iff_not] at this
  rw [k8 .wlk l j (by omega)] at this
  have := hn _ hxl
  omega
 have h2 : ∀ x ∈ l.drop (A7 l w.id), w.id < x.id := fun x hx => by
  obtain ⟨j, hj, rfl⟩ := List.getElem_of_mem hx
  rw [List.length_drop] at hj
  rcases C6 (Q7 w.id) l with ⟨h3, _⟩ | ⟨i, hi, h3, h4, _⟩
  ·unfold A7 at hj
   rw [h3] at hj
   simp at hj
  ·have he : A7 l w.id = i := by
    unfold A7
    rw [h3, if_neg (by omega)]
    rfl
   simp only [Q7, decide_eq_true_eq] at h4
   rw [List.getElem_drop]
   simp only [he]
   rcases Nat.eq_zero_or_pos j with h0 | h0
   ·subst h0; exact h4
   ·have := h i (i + j) (by omega) (by omega)
    rw [k8 .wlk l i hi, k8 .wlk l (i + j) (by omega)] at this
    omega
 rw [srt_pw] at h ⊢
 unfold insL
 rw [List.pairwise_append]
 refine ⟨h.sublist (List.take_sublist _ _), ?_, fun a ha b hb => ?_⟩
 ·simp only [List.cons_append, List.nil_append, List.pairwise_cons]
  exact ⟨fun b hb => h2 b hb, h.sublist (List.drop_sublist _ _)⟩
 ·simp only [List.cons_append, List.nil_append, List.mem_cons] at hb
  rcases hb with rfl | hb
  ·exact h1 a ha
  ·exact Int.lt_trans (h1 a ha) (h2 b hb)
theorem mem_insL {α : Type} {l m : List α} {n : Nat} {x : α} (h : x ∈ insL l n m) : x ∈ l ∨ x ∈ m := by
 simp only [insL, List.mem_append] at h
 rcases h with h | h | h
 ·exact .inl (List.mem_of_mem_take h)
 ·exact .inr h
 ·exact .inl (List.mem_of_mem_drop h)
theorem b3w {l : List Wlk} {id : Int} {x : Wlk} (h : x ∈ B9 l id) : x ∈ l ∧ x.id ≠ id := by
 simpa [B9] using h
theorem c0m {l : List Wlk} {w : Wlk} (h : srt l) : srt (J5 l w) := put_pw (a9a h _) fun x hx => (b3w hx).2
theorem b3m {l : List Wlk} {w x : Wlk} (h : x ∈ J5 l w) : x ∈ l ∨ x = w := by
 rcases mem_insL h with h | h
 ·exact .inl (b3w h).1
 ·exact .inr (by simpa using h)
theorem b9I {l : List Wlk} {i : Nat} {w x : Wlk} (h : x ∈ l.set i w) : x ∈ l ∨ x = w := List.mem_or_eq_of_mem_set h
theorem b7G {m : PMap} {c : Cll} {i : Nat} {w : Wlk} {g : Int} (h : r7 m c = true) (hw : w.id = (nth .wlk c.wlks i).id) (hok : P8 m w = true) (hp : l9 m w.pos = c.cell) (hg : 0 ≤ g ∧ g ≤ 900) : r7 m ⟨c.cell, c.wlks.set i w, g, c.outs, c.next, c.ins⟩ = true := by
 rw [C7] at h ⊢
 obtain ⟨h1, h2, h3, h4, h5, _, _, h8⟩ := h
 refine ⟨fun x hx => ?_, a8x h2 hw, h3, h4, h5, hg.1, hg.2, h8⟩
 rcases b9I hx with hx | rfl
 ·exact h1 x hx
 ·exact ⟨hok, hp⟩
theorem lt5000 {x : Int} (h : x ≤ 5000) (h2 : ¬ x = 5000) : x < 5000 := by omega
theorem le4999 {x : Int} (h : x ≤ 5000) (h2 : ¬ x = 5000) : x ≤ 4999 := by omega
theorem le_succ {a b : Int} (h : a = b) (h2 : a ≤ 4999) : b + 1 ≤ 5000 := by omega
theorem nn_succ {b : Int} (h : 0 ≤ b) : 0 ≤ b + 1 := by omega
theorem b1y {m : PMap} {c : Cll} {s : Nat} {p : Pcl} (h : r7 m c = true) (hs : s < 2) (hn : ¬ nth .int c.next s = 5000) (hp : I3 m ⟨nth .int c.next s, p.kind, p.wlk, p.l7⟩ = true) (hsd : ¬ b7 m c.cell s = -1) (hk : p.kind = 1 → l9 m p.wlk.pos = b7 m c.cell s) :
  (B4 c s p).length = 2 ∧ (E2 c s).length = 2 ∧ ∀ s', s' < 2 → b4Y m c.cell (nth .pcls (B4 c s p) s') (nth .int (E2 c s) s') (nth .int c.ins s') s' := by
 have hside := C5 h hs
 rw [C7] at h
 obtain ⟨_, _, _, _, _, _, _, ho, hnx, hi, hsb⟩ := h
 refine ⟨by simp [B4, ho], by simp [E2, hnx], fun s' hs' => ?_⟩
 have hb := hsb s' hs'
 unfold B4 E2
 by_cases he : s = s'
 ·subst he
  rw [m5 .pcls (by omega), m5 .int (by omega)]
  obtain ⟨b1, b2, b3, b4, b5⟩ := hb
  refine ⟨a9r b1 (lt5000 hside.1.2 hn) hp rfl, b2, b3, fun hh => absurd hh hsd, fun q hq hqk => ?_⟩
  ·simp only [List.mem_append, List.mem_singleton] at hq
   rcases hq with hq | rfl
   ·exact b5 q hq hqk
   ·exact hk hqk
 ·rw [o9 .pcls he, o9 .int he]
  exact hb
theorem b2s {m : PMap} {p d : Int} (hd : d = 0 ∨ d = 1) (h1 : ¬ l9 m (p + (2 * d - 1)) = -1) (h0 : ¬ l9 m p = -1) (h2 : ¬ l9 m (p + (2 * d - 1)) = l9 m p) : l9 m (p + (2 * d - 1)) = b7 m (l9 m p) d ∧ ¬ b7 m (l9 m p) d = -1 := by
 obtain ⟨g1, g2, g3, g4⟩ := I9 h1
 obtain ⟨_, k2, k3, k4⟩ := I9 h0
 have hok := g1
 rw [p5] at g1
 obtain ⟨c, w⟩ := m
 simp only at *
 have hw : w = 2 ∨ w = 3 ∨ w = 4 ∨ w = 5 ∨ w = 6 ∨ w = 7 ∨ w = 8 := by omega
 rw [g4, k4] at h2
 rw [g4, k4]
 unfold b7
 simp only [hok, true_and]
 clear g4 k4 h1 h0
 rcases hw with rfl | rfl | rfl | rfl | rfl | rfl | rfl <;> rcases hd with rfl | rfl <;> refine ⟨?_, ?_⟩ <;> (repeat' split) <;> omega
theorem cllDo_ok {m : PMap} {c : Cll} {o : Ord} (h : r7 m c = true) (ho : K6 o = true) : r7 m (F4 m c o).c = true := by
 have hoi := H8.1 ho
 unfold F4
 split
 ·exact h
 rename_i hneg
 have hlt := E9 hneg
 have hid := a5K (l := c.wlks) (id := o.who) (by omega)
 generalize hi : (j7 c.wlks o.who).toNat = i at *
 have hwb := H9 h hlt
 have hwok := (C7.1 h).1 _ (n6 .wlk hlt)
 have hwi := H5.1 hwok.1
 have hf := n0 h
 simp only
 generalize hw : nth .wlk c.wlks i = w at *
 split
 ·exact h
 split
 ·exact h
 rename_i hs1 hs2
 have stay : ∀ (pos l7 last g : Int), l9 m pos = c.cell → 0 ≤ l7 ∧ l7 ≤ 99 → 0 ≤ last ∧ last ≤ 9 → 0 ≤ g ∧ g ≤ 900 → r7 m ⟨c.cell, c.wlks.set i ⟨w.id, pos, l7, o.seq, last⟩, g, c.outs, c.next, c.ins⟩ = true := by
  intro pos l7 last g hp hc hl hg
  refine b7G h (by rw [hw]) ?_ hp hg
  rw [H5]
  simp only
  exact ⟨hwi.1, hwi.2.1, by rw [hp]; omega, hc.1, hc.2, by omega, by omega, hl.1, hl.2⟩
 have hwc : l9 m w.pos = c.cell := hwok.2
 have hco : 0 ≤ w.l7 ∧ w.l7 ≤ 99 := ⟨hwi.2.2.2.1, hwi.2.2.2.2.1⟩
 have hgr : 0 ≤ c.ground ∧ c.ground ≤ 900 := ⟨hf.2.2.2.2.1, hf.2.2.2.2.2.1⟩
 have fin : ∀ code, 0 ≤ code ∧ code ≤ 9 → r7 m (E3 c i ⟨w.id, w.pos, w.l7, o.seq, w.last⟩ c.ground code).c = true := fun code hc => stay _ _ _ _ hwc hco hc hgr
 unfold M7
 split
 ·unfold X0
  simp only
  split
  ·exact fin 2 (by omega)
  split
  ·rename_i h2
   exact stay _ _ _ _ h2 hco (by omega) hgr
  split
  ·exact fin 2 (by omega)
  rename_i e1 e2 e3
  have hd : o.dest = 0 ∨ o.dest = 1 := by omega
  obtain ⟨g1, g2⟩ := b2s (m := m) (p := w.pos) hd e1 (by rw [hwc]; omega) (by rw [hwc]; exact e2)
  rw [hwc] at g1 g2
  have hdd : ((o.dest.toNat : Nat) : Int) = o.dest := by omega
  have hside := C5 h (s := o.dest.toNat) (by omega)
  obtain ⟨s1, s2, s3⟩ := b1y (p := ⟨0, 1, ⟨w.id, w.pos + (2 * o.dest - 1), w.l7, o.seq, 1⟩, 0⟩) h (s := o.dest.toNat) (by omega) e3 (by
   rw [M3]
   refine ⟨hf.2.1, hside.1.1, le4999 hside.1.2 e3, .inl ⟨rfl, ?_, rfl⟩⟩
   ·rw [H5]
    exact ⟨hwi.1, hwi.2.1, e1, hco.1, hco.2, by show 0 ≤ o.seq; omega, by show o.seq ≤ 900; omega, by show (0 : Int) ≤ 1; omega, by show (1 : Int) ≤ 9; omega⟩) (by rw [hdd]; exact g2) (fun _ => by rw [hdd]; exact g1)
  rw [C7] at h ⊢
  obtain ⟨h1, h2, h3, h4, h5, h6, h7, h8, h9, h10, h11⟩ := h
  refine ⟨fun x hx => ?_, a9a (a8x h2 (by rw [hw])) _, h3, h4, h5, h6, h7, s1, s2, h10, s3⟩
  obtain ⟨hx1, hx2⟩ := b3w hx
  rcases b9I hx1 with hx1 | rfl
  ·exact h1 x hx1
  ·exact absurd hid hx2
 split
 ·unfold X2
  simp only
  split
  ·exact fin 4 (by omega)
  split
  ·exact fin 3 (by omega)
  split
  ·exact fin 5 (by omega)
  rename_i e1 e2 e3
  have hlj := E9 e1
  have hne : o.dest ≠ o.who := by omega
  have hij := a3f hneg e1 hne
  rw [hi] at hij
  generalize hj : (j7 c.wlks o.dest).toNat = j at *
  have hvok := (C7.1 h).1 _ (n6 .wlk hlj)
  have hvi := H5.1 hvok.1
  have h' := b7G (i := j) (w := ⟨(nth .wlk c.wlks j).id, (nth .wlk c.wlks j).pos, (nth .wlk c.wlks j).l7 + o.n, (nth .wlk c.wlks j).seq, (nth .wlk c.wlks j).last⟩) h rfl (by
   rw [H5]
   simp only
   exact ⟨hvi.1, hvi.2.1, hvi.2.2.1, by omega, by omega, hvi.2.2.2.2.2⟩) hvok.2 hgr
  refine b7G (i := i) (w := ⟨w.id, w.pos, w.l7 - o.n, o.seq, 1⟩) h' (by simp only; rw [o9 .wlk (Ne.symm hij), hw]) (by
   rw [H5]
   simp only
   exact ⟨hwi.1, hwi.2.1, hwi.2.2.1, by omega, by omega, by omega, by omega, by omega, by omega⟩) hwc hgr
 split
 ·unfold X3
  simp only
  split
  ·exact fin 3 (by omega)
  split
  ·exact fin 5 (by omega)
  exact stay w.pos (w.l7 - o.n) 1 (c.ground + o.n) hwc (by omega) (by omega) (by omega)
 split
 ·unfold X1
  simp only
  split
  ·exact fin 6 (by omega)
  split
  ·exact fin 5 (by omega)
  exact stay w.pos (w.l7 + o.n) 1 (c.ground - o.n) hwc (by omega) (by omega) (by omega)
 split
 ·unfold P1
  simp only
  split
  ·exact fin 7 (by omega)
  split
  ·exact fin 3 (by omega)
  split
  ·exact fin 5 (by omega)
  rename_i e1 e2 e3
  have he : I2 m w.pos o.dest = true := by simpa using e1
  simp only [I2, decide_eq_true_eq] at he
  have hdd : ((o.dest.toNat : Nat) : Int) = o.dest := by omega
  have hside := C5 h (s := o.dest.toNat) (by omega)
  obtain ⟨s1, s2, s3⟩ := b1y (p := ⟨0, 2, ⟨0, 0, 0, 0, 0⟩, o.n⟩) h (s := o.dest.toNat) (by omega) e3 (by
   rw [M3]
   exact ⟨hf.2.1, hside.1.1, le4999 hside.1.2 e3, .inr ⟨rfl, (show a2O ⟨0, 0, 0, 0, 0⟩ = true by decide), (by show 1 ≤ o.n; omega), (by show o.n ≤ 9; omega)⟩⟩) (by rw [hdd, ← hwc]; exact he.1) (fun hk => by cases hk)
  have h' := stay w.pos (w.l7 - o.n) 1 c.ground hwc (by omega) (by omega) hgr
  rw [C7] at h' ⊢
  obtain ⟨h1, h2, h3, h4, h5, h6, h7, h8, h9, h10, h11⟩ := h'
  exact ⟨h1, h2, h3, h4, h5, h6, h7, s1, s2, h10, s3⟩
 ·exact fin 1 (by omega)
theorem b9e {m : PMap} {c : Cll} {s : Nat} {p : Pcl} (h : r7 m c = true) (hp : I3 m p = true) (hs : ¬ b7 m c.cell s = -1) : r7 m (s9 m c s p).c = true := by
 have hs2 : s < 2 := by
  have := (G7 hs).2.2.2
  omega
 have hpc : 0 ≤ p.n ∧ p.n ≤ 4999 ∧ (p.kind = 1 ∧ P8 m p.wlk = true ∧ p.l7 = 0 ∨ p.kind = 2 ∧ 1 ≤ p.l7 ∧ p.l7 ≤ 9) := by
  simp only [I3, decide_eq_true_eq] at hp
  refine ⟨hp.2.1, hp.2.2.1, hp.2.2.2.imp id fun h => ⟨h.1, h.2.2.1, h.2.2.2⟩⟩
 have hins : ¬ (¬ p.n = nth .int c.ins s) → (C3 c s).length = 2 ∧ ∀ s', s' < 2 → b4Y m c.cell (nth .pcls c.outs s') (nth .int c.next s') (nth .int (C3 c s) s') s' := by
  intro hn
  obtain ⟨_, _, _, _, _, _, _, ho, hnx, hi, hsb⟩ := C7.1 h
  refine ⟨by simp [C3, hi], fun s' hs' => ?_⟩
  obtain ⟨b1, b2, b3, b4, b5⟩ := hsb s' hs'
  unfold C3
  by_cases he : s = s'
  ·subst he
   rw [m5 .int (by omega)]
   exact ⟨b1, nn_succ b2, le_succ (by simpa using hn) hpc.2.1, fun hh => absurd hh hs, b5⟩
  ·rw [o9 .int he]
   exact ⟨b1, b2, b3, b4, b5⟩
 unfold s9
 split
 ·exact h
 rename_i e1
 obtain ⟨i1, i2⟩ := hins (fun hh => e1 (.inl hh))
 split
 ·rw [C7] at h ⊢
  obtain ⟨h1, h2, h3, h4, h5, h6, h7, h8, h9, h10, h11⟩ := h
  exact ⟨h1, h2, h3, h4, h5, by show 0 ≤ c.ground + p.l7; omega, by show c.ground + p.l7 ≤ 900; omega, h8, h9, i1, i2⟩
 split
 ·exact h
 ·rename_i e2 e3
  have hw : P8 m p.wlk = true := by
   rcases hpc.2.2 with ⟨_, h2, _⟩ | ⟨h2, _⟩
   ·exact h2
   ·exact absurd h2 e2
  have hpos : l9 m p.wlk.pos = c.cell := by
   rcases Decidable.em (l9 m p.wlk.pos = c.cell) with h2 | h2
   ·exact h2
   ·exact absurd (.inr h2) e3
  rw [C7] at h ⊢
  obtain ⟨h1, h2, h3, h4, h5, h6, h7, h8, h9, h10, h11⟩ := h
  refine ⟨fun x hx => ?_, c0m h2, h3, h4, h5, h6, h7, h8, h9, i1, i2⟩
  rcases b3m hx with hx | rfl
  ·exact h1 x hx
  ·exact ⟨hw, hpos⟩
theorem cllRel_ok {m : PMap} {c : Cll} {s : Nat} {n : Int} (h : r7 m c = true) (hs : s < 2) : r7 m (D6 c s n).c = true := by
 unfold D6
 split
 ·exact h
 ·rename_i e1
  rw [C7] at h ⊢
  obtain ⟨h1, h2, h3, h4, h5, h6, h7, h8, h9, h10, h11⟩ := h
  refine ⟨h1, h2, h3, h4, h5, h6, h7, by simp [N0, h8], h9, h10, fun s' hs' => ?_⟩
  obtain ⟨b1, b2, b3, b4, b5⟩ := h11 s' hs'
  simp only [N0]
  by_cases he : s = s'
  ·subst he
   rw [m5 .pcls (by omega)]
   have hle : ¬ (nth .int c.next s < n) ∧ ¬ (n ≤ nth .int c.next s - (nth .pcls c.outs s).length) := ⟨fun hh => e1 (.inl hh), fun hh => e1 (.inr hh)⟩
   have hd := a5M (x := n) b1 (by have := hle.2; omega)
   refine ⟨?_, b2, b3, b4, fun p hp => b5 p ((List.mem_filter.1 hp).1)⟩
   rw [hd]
   have e2 : ¬ @LT.lt Int _ (nth .int c.next s) n := hle.1
   refine a9s b1 ?_
   have e3 := (J1.1 b1).2.2.2.1
   have e4 : @LE.le Int _ ((nth .pcls c.outs s).length : Int) (nth .int c.next s) := e3
   generalize ((nth .pcls c.outs s).length) = L at *
   generalize (nth .int c.next s : Int) = N at *
   omega
  ·rw [o9 .pcls he]
   exact ⟨b1, b2, b3, b4, b5⟩
theorem a3F {m : PMap} {c : Cll} {r : Rec} (h : r7 m c = true) (hr : D4 m r = true) : r7 m (j9 m c r).c = true := by
 simp only [D4, decide_eq_true_eq] at hr
 obtain ⟨_, h2, h3⟩ := hr
 rw [M1] at h2
 unfold j9
 split
 ·split
  ·exact cllDo_ok h (by
    rcases h2 with h2 | h2 | h2
    ·exact h2.2.1
    ·omega
    ·omega)
  ·exact h
 split
 ·exact h
 rename_i hk hsd
 have hss : (r.side.toNat : Int) = r.side := by omega
 split
 ·rename_i hk2
  exact b9e h (h3 hk2) (by rw [hss]; exact hsd)
 ·exact cllRel_ok h (by omega)
end Go.Mo
namespace Go.Sx
def St.fgs (σ : St) : List Nat → St
 | [] => σ
 | k :: ks => (σ.fg k).fgs ks
end Go.Sx
namespace Go.Mo
open Go.Sx
def r9 (m : PMap) (c : Cll) (l : List Rec) : Nat → Cll
 | 0 => c
 | k + 1 => (j9 m (r9 m c l k) (nth .rcd l k)).c
theorem a8n (m : PMap) (c : Cll) (l : List Rec) : r9 m c l 0 = c := rfl
theorem K8 (m : PMap) (c : Cll) (l : List Rec) (k : Nat) : r9 m c l (k + 1) = (j9 m (r9 m c l k) (nth .rcd l k)).c := rfl
def H3 (m : PMap) (c : Cll) (l : List Rec) (k : Nat) : Bool := D4 m (nth .rcd l k) && (j9 m (r9 m c l k) (nth .rcd l k)).ok
def S6 (m : PMap) (c : Cll) (l : List Rec) : Nat := ((List.range l.length).find? fun k => !H3 m c l k).getD l.length
def a0a (m : PMap) (c : Cll) (l : List Rec) : Cll := r9 m c l (S6 m c l)
theorem a2y {m : PMap} {c : Cll} {l : List Rec} (h : r7 m c = true) : ∀ {k : Nat}, m4 k (H3 m c l) = true → r7 m (r9 m c l k) = true
 | 0, _ => h
 | k + 1, hk => by
  rw [n3, Bool.and_eq_true] at hk
  simp only [H3, Bool.and_eq_true] at hk
  exact a3F (a2y h hk.1) hk.2.1
theorem b6R {m : PMap} {c : Cll} {l : List Rec} {k : Nat} (hk : k < l.length) (h : m4 k (H3 m c l) = true) (hf : H3 m c l k = false) : S6 m c l = k := by
 unfold S6
 have h1 : (List.range l.length).find? (fun k => !H3 m c l k) = some k := List.find?_range_eq_some.2 ⟨by simp [hf], by simpa using hk, fun j hj => by simp [(k9 _ _).1 h j hj]⟩
 rw [h1]
 rfl
theorem a4e {m : PMap} {c : Cll} {l : List Rec} {k : Nat} (hk : k = l.length) (h : m4 k (H3 m c l) = true) : S6 m c l = k := by
 subst hk
 unfold S6
 have h1 : (List.range l.length).find? (fun k => !H3 m c l k) = none := List.find?_eq_none.2 fun j hj => by simpa using (k9 _ _).1 h j (by simpa using hj)
 rw [h1]
 rfl
theorem a0E (m : PMap) (c : Cll) (l : List Rec) : m4 (S6 m c l) (H3 m c l) = true := by
 rw [k9]
 intro j hj
 unfold S6 at hj
 cases h : (List.range l.length).find? fun k => !H3 m c l k with
 | none =>
  rw [h] at hj
  simp at hj
  have := List.find?_eq_none.1 h j (by simpa using hj)
  simpa using this
 | some k =>
  rw [h] at hj
  simp at hj
  have h2 := (List.find?_range_eq_some.1 h).2.2 j hj
  simpa using h2
theorem foldC_ok {m : PMap} {c : Cll} {l : List Rec} (h : r7 m c = true) : r7 m (a0a m c l) = true := a2y h (a0E m c l)
theorem a7D {c : Cll} {o : Ord} (h : K3 c o = true) : o7 c.wlks o.who = true := by
 simp only [K3, Bool.and_eq_true] at h
 exact h.1
theorem S5 {c : Cll} {o : Ord} (h : K3 c o = true) : ¬ j7 c.wlks o.who < 0 ∧ (nth .wlk c.wlks (j7 c.wlks o.who).toNat).seq < o.seq := by
 have h1 := a7D h
 have h2 := M5 h1
 simp only [K3, Bool.and_eq_true, decide_eq_true_eq] at h
 rw [a3y h1] at h
 exact ⟨by omega, h.2⟩
structure CN where
 c : Cll
 n : Int
def y6 (m : PMap) (c : Cll) (l : List Rec) : CN := if r7 m c = true ∧ l.length ≤ 250 then ⟨a0a m c l, S6 m c l⟩ else ⟨P7, 0⟩
theorem a9Q {m : PMap} {r : Rec} (h : D4 m r = true) (hk : r.kind = 1) : K6 r.ord = true := by
 simp only [D4, decide_eq_true_eq] at h
 have := M1.1 h.2.1
 rcases this with h | h | h
 ·exact h.2.1
 ·omega
 ·omega
theorem a6g {m : PMap} {r : Rec} (h : D4 m r = true) (hk : r.kind = 2) : I3 m r.pcl = true := by
 simp only [D4, decide_eq_true_eq] at h
 exact h.2.2 hk
end Go.Mo
