/-
  Plain models: is a world ok.
-/
import Derived.Test.YtkclfaldmghkeaaGreatM2
import Derived.Test.YtkclfaldmghkeaaGreatS4e
import Derived.Test.YtkclfaldmghkeaaGreatM1
set_option linter.unusedVariables false
set_option linter.unusedSimpArgs false
namespace Go.Sx
end Go.Sx
namespace Go.Mo
open Go.Sx
def a9h (w : Wld) : Bool := decide (w.net.length ≤ 40) && l8 w.net.length (a5C w)
def a2T (l : List Note) (i : Nat) : Bool := a4p (nth .note l i)
def a5B (l : List Note) : Bool := decide (l.length ≤ 150) && l8 l.length (a2T l)
def a6v (w : Wld) : Bool := l8 w.servers.length (a2m w)
theorem a1A {f : Nat → Bool} {k n : Nat} (h : l8 k f = true) (hk : k = n) : l8 n f = true := by subst hk; exact h
theorem b0O {w : Wld} {k : Nat} (h : k < w.servers.length) (hw : y3 w.map (nth .srv w.servers k) = false) : l8 w.servers.length (a2m w) = false :=
 s0 h (by simp [a2m, hw])
theorem b0N {w : Wld} {k j : Nat} (h : k < w.servers.length) (hj : j < (nth .srv w.servers k).holds.length) (hw : a3k w.table (nth .srv w.servers k).holds j = false) : l8 w.servers.length (a2m w) = false :=
 s0 h (by rw [a2m, s0 hj hw, Bool.and_false])
theorem b4f {w : Wld} {k j : Nat} (h1 : y3 w.map (nth .srv w.servers k) = true) (h2 : l8 j (a3k w.table (nth .srv w.servers k).holds) = true) (hj : j = (nth .srv w.servers k).holds.length) : a2m w k = true := by
 subst hj
 simp [a2m, h1, h2]
theorem b3V {w : Wld} {k : Nat} (h : k < w.stores.length) (hw : a0q w k = false) : l8 w.stores.length (a0q w) = false := s0 h hw
theorem b9K {w : Wld} {k : Nat} (h : k < w.net.length) (hw : a5C w k = false) : l8 w.net.length (a5C w) = false := s0 h hw
theorem b1p {l : List Note} {k : Nat} (h : k < l.length) (hw : a2T l k = false) : l8 l.length (a2T l) = false := s0 h hw
theorem c2c (w : Wld) : l8 w.notes.length (b7z w) = l8 w.notes.length (a2T w.notes) := rfl
theorem b9T {m : PMap} {s : Srv} {k : Nat} (h : y3 m s = true) (hk : k < s.holds.length) : 0 ≤ (nth .hld s.holds k).state.cell ∧ (nth .hld s.holds k).state.cell < m.cells := by
 have := n6 (y5.1 (a4f h hk)).2.2
 exact ⟨this.2.2.1, this.2.2.2.1⟩
theorem a9i {m : PMap} {v : Int} {x : Msg} (h : s9 m v x = true) : 0 ≤ x.cell ∧ x.cell < m.cells := by
 simp only [s9, decide_eq_true_eq] at h
 exact ⟨h.2.2.2.1, h.2.2.2.2.1⟩
theorem F3 {m : PMap} {t : Arb} {v : Int} (h : z5 m t v = true) : (t.servers.length : Int) = m.cells ∧ (t.ages.length : Int) = m.cells ∧ n8 m = true ∧ 1 ≤ v ∧ v ≤ 3 := by
 unfold z5 at h
 rw [Bool.and_eq_true] at h
 have h1 := h.1
 simp only [U2, decide_eq_true_eq] at h1
 exact ⟨h1.2.2.2.1, h1.2.2.2.2, h1.1, h1.2.1, h1.2.2.1⟩
theorem a4O {m : PMap} {l : List Sto} (h : x7 m l = true) : (l.length : Int) = m.cells ∧ n8 m = true := by
 unfold x7 at h
 rw [Bool.and_eq_true] at h
 have h1 := h.1
 simp only [decide_eq_true_eq] at h1
 exact ⟨h1.2, h1.1⟩
theorem a8v {m : PMap} {l : List Sto} (h : x7 m l = true) : l.length ≤ 4 := by
 obtain ⟨h1, h2⟩ := a4O h
 obtain ⟨_, h3, _⟩ := r6.1 h2
 omega
def a4J (w : Wld) : Bool := z5 w.map w.table w.servers.length && x7 w.map w.stores && y6 w.map w.rows && l8 w.stores.length (a0q w) && a6v w && a9h w && a5B w.notes
theorem b0G (w : Wld) : p9 w = a4J w := by
 simp only [p9, a4J, a6v, a9h, a5B, c2c]
 by_cases h1 : w.net.length ≤ 40 <;> by_cases h2 : w.notes.length ≤ 150 <;> simp [h1, h2]
theorem K7 (t : RT) {l : List t.ty} {x : t.ty} (h : x ∈ l) : ∃ i, i < l.length ∧ nth t l i = x := by
 obtain ⟨i, hi, he⟩ := List.getElem_of_mem h
 exact ⟨i, hi, by rw [k9 t l i hi]; exact he⟩
theorem b5P {m : PMap} {l : List Gst} : A9 m l = true ↔ l.length ≤ 20 ∧ (∀ g ∈ l, Y3 m g = true) ∧ GSort l := by
 constructor
 ·intro h
  refine ⟨?_, fun g hg => ?_, a9C h⟩
  ·simp only [A9, Bool.and_eq_true, decide_eq_true_eq] at h; exact h.1
  ·obtain ⟨i, hi, rfl⟩ := K7 .gst hg
   simp only [A9, Bool.and_eq_true] at h
   have := (j9 _ _).1 h.2 i hi
   simp only [a1v, Bool.and_eq_true] at this
   exact this.1
 ·rintro ⟨h1, h2, h3⟩
  simp only [A9, Bool.and_eq_true, decide_eq_true_eq]
  refine ⟨h1, (j9 _ _).2 fun i hi => ?_⟩
  simp only [a1v, Bool.and_eq_true, Bool.or_eq_true, decide_eq_true_eq]
  refine ⟨h2 _ (r8 .gst hi), ?_⟩
  by_cases h0 : i = 0
  ·exact .inl h0
  ·right
   have := List.pairwise_iff_getElem.1 h3 (i - 1) i (by omega) hi (by omega)
   rwa [k9 .gst _ _ hi, k9 .gst _ _ (by omega)]
theorem a2b {m : PMap} {l : List Gst} : Q3 m l = true ↔ n8 m = true ∧ l.length ≤ 20 ∧ (∀ g ∈ l, Y3 m g = true) ∧ GSort l := by
 rw [Q3, Bool.and_eq_true, b5P]
theorem A6 {m : PMap} {s : Srv} : y3 m s = true ↔ Q3 m s.n0 = true ∧ a3M s = true ∧ (∀ h ∈ s.holds, N3 m h = true) ∧ HSort s.holds := by
 constructor
 ·intro h
  refine ⟨?_, ?_, fun g hg => ?_, a9w h⟩
  ·simp only [y3, Bool.and_eq_true] at h; exact h.1.1
  ·simp only [y3, Bool.and_eq_true] at h; exact h.1.2
  ·obtain ⟨i, hi, rfl⟩ := K7 .hld hg
   exact a4f h hi
 ·rintro ⟨h1, h2, h3, h4⟩
  simp only [y3, Bool.and_eq_true]
  refine ⟨⟨h1, h2⟩, (j9 _ _).2 fun i hi => ?_⟩
  simp only [a1u, Bool.and_eq_true, Bool.or_eq_true, decide_eq_true_eq]
  refine ⟨h3 _ (r8 .hld hi), ?_⟩
  by_cases h0 : i = 0
  ·exact .inl h0
  ·right
   have := List.pairwise_iff_getElem.1 h4 (i - 1) i (by omega) hi (by omega)
   rwa [k9 .hld _ _ hi, k9 .hld _ _ (by omega)]
theorem B4 {m : PMap} {l : List Sto} : x7 m l = true ↔ n8 m = true ∧ (l.length : Int) = m.cells ∧ ∀ i, i < l.length → x8 m (nth .sto l i) = true ∧ (nth .sto l i).base.cell = (i : Int) := by
 simp only [x7, Bool.and_eq_true, decide_eq_true_eq, and_assoc]
 refine and_congr_right fun _ => and_congr_right fun _ => ?_
 rw [j9]
 simp only [a1d, Bool.and_eq_true, decide_eq_true_eq]
theorem a1g {s : Srv} : a3M s = true ↔ (s.up = true ∨ s.holds = [] ∧ s.n0 = []) := by
 simp [a3M]
theorem P2 : ∀ {l : List Hld} {h x : Hld}, HSort l → x ∈ putH l h → x = h ∨ x ∈ l ∧ x.state.cell ≠ h.state.cell
 | [], h, x, _, hx => by simp [putH] at hx; exact .inl hx
 | y :: l, h, x, hs, hx => by
  obtain ⟨hy, hl⟩ := List.pairwise_cons.1 hs
  simp only [putH] at hx
  split at hx
  ·rename_i h1
   rcases List.mem_cons.1 hx with rfl | hx
   ·exact .inl rfl
   ·right
    refine ⟨hx, ?_⟩
    rcases List.mem_cons.1 hx with rfl | hx
    ·omega
    ·have := hy x hx; omega
  ·split at hx
   ·rename_i h1 h2
    rcases List.mem_cons.1 hx with rfl | hx
    ·exact .inl rfl
    ·have := hy x hx
     exact .inr ⟨List.mem_cons_of_mem _ hx, by omega⟩
   ·rename_i h1 h2
    rcases List.mem_cons.1 hx with rfl | hx
    ·exact .inr ⟨List.mem_cons_self, by omega⟩
    ·rcases P2 hl hx with rfl | ⟨h3, h4⟩
     ·exact .inl rfl
     ·exact .inr ⟨List.mem_cons_of_mem _ h3, h4⟩
theorem a6H : ∀ {l : List Hld} {h : Hld}, HSort l → HSort (putH l h)
 | [], h, _ => by simp [putH]
 | y :: l, h, hs => by
  obtain ⟨hy, hl⟩ := List.pairwise_cons.1 hs
  simp only [putH]
  split
  ·rename_i h1
   refine List.pairwise_cons.2 ⟨fun x hx => ?_, hs⟩
   rcases List.mem_cons.1 hx with rfl | hx
   ·exact h1
   ·have := hy x hx; omega
  ·split
   ·rename_i h1 h2
    refine List.pairwise_cons.2 ⟨fun x hx => ?_, hl⟩
    have := hy x hx; omega
   ·rename_i h1 h2
    refine List.pairwise_cons.2 ⟨fun x hx => ?_, a6H hl⟩
    rcases P2 hl hx with rfl | ⟨h3, _⟩
    ·omega
    ·exact hy x h3
theorem b3x {l : List Hld} {c : Int} {x : Hld} : x ∈ C5 l c ↔ x ∈ l ∧ x.state.cell ≠ c := by simp [C5]
theorem c6h {l : List Hld} {c : Int} (h : HSort l) : HSort (C5 l c) := List.Pairwise.filter _ h
theorem D7 {s : Srv} {c : Int} (h : v5 s c = true) : b9 s c ∈ s.holds ∧ (b9 s c).state.cell = c := by
 simp only [v5, decide_eq_true_eq] at h
 have hlt := a1Z s.holds c
 rw [b9, if_pos h]
 exact ⟨r8 .hld (by omega), a1t h⟩
theorem a5d {room : Bool} : ∀ {l : List Gst} {g x : Gst}, x ∈ putG room l g → x = g ∨ x ∈ l
 | [], g, x, h => by
  simp only [putG] at h
  split at h
  ·exact .inl (by simpa using h)
  ·simp at h
 | y :: l, g, x, h => by
  simp only [putG] at h
  split at h
  ·split at h
   ·rcases List.mem_cons.1 h with rfl | h
    ·exact .inl rfl
    ·exact .inr h
   ·exact .inr h
  ·split at h
   ·rcases List.mem_cons.1 h with rfl | h
    ·unfold a5J
     split
     ·exact .inl rfl
     ·exact .inr List.mem_cons_self
    ·exact .inr (List.mem_cons_of_mem _ h)
   ·rcases List.mem_cons.1 h with rfl | h
    ·exact .inr List.mem_cons_self
    ·rcases a5d h with h | h
     ·exact .inl h
     ·exact .inr (List.mem_cons_of_mem _ h)
theorem c2e (x g : Gst) (he : x.src = g.src ∧ x.wlk.id = g.wlk.id) : (a5J x g).src = g.src ∧ (a5J x g).wlk.id = g.wlk.id := by
 unfold a5J
 split
 ·exact ⟨rfl, rfl⟩
 ·exact he
theorem b1d {room : Bool} : ∀ {l : List Gst} {g : Gst}, GSort l → GSort (putG room l g)
 | [], g, _ => by simp only [putG]; split <;> simp
 | y :: l, g, hs => by
  obtain ⟨hy, hl⟩ := List.pairwise_cons.1 hs
  simp only [putG]
  split
  ·rename_i h1
   split
   ·refine List.pairwise_cons.2 ⟨fun x hx => ?_, hs⟩
    rcases List.mem_cons.1 hx with rfl | hx
    ·exact h1
    ·have := hy x hx
     rw [F4] at *
     omega
   ·exact hs
  ·split
   ·rename_i h1 h2
    refine List.pairwise_cons.2 ⟨fun x hx => ?_, hl⟩
    have := hy x hx
    have hk := c2e y g h2
    rw [F4] at *
    omega
   ·rename_i h1 h2
    refine List.pairwise_cons.2 ⟨fun x hx => ?_, b1d hl⟩
    rcases a5d hx with rfl | h3
    ·rw [F4] at *
     omega
    ·exact hy x h3
theorem b4I {room : Bool} : ∀ (l : List Gst) (g : Gst), (putG room l g).length ≤ l.length + (if room = true then 1 else 0)
 | [], g => by simp only [putG]; split <;> simp
 | y :: l, g => by
  have := b4I (room := room) l g
  simp only [putG]
  split
  ·split <;> simp
  ·split
   ·simp
   ·simp only [List.length_cons]; omega
theorem c2x {m : PMap} {l : List Gst} {g : Gst} (hl : Q3 m l = true) (hg : Y3 m g = true) : Q3 m (a0X l g) = true := by
 obtain ⟨h1, h2, h3, h4⟩ := a2b.1 hl
 rw [a4v h4]
 refine a2b.2 ⟨h1, ?_, fun x hx => ?_, b1d h4⟩
 ·have := b4I (room := decide (l.length < 20)) l g
  by_cases h5 : l.length < 20
  ·rw [decide_eq_true h5, if_pos rfl] at this
   rw [decide_eq_true h5]
   omega
  ·rw [decide_eq_false h5] at this ⊢
   simp at this
   omega
 ·rcases a5d hx with rfl | hx
  ·exact hg
  ·exact h3 x hx
theorem a8m {m : PMap} {h : Hld} {s : Sto} {r : Rec} (hn : (s6 m h s r).n = 1) :
  N3 m h = true ∧ x8 m s = true ∧ h.age = s.age ∧ h.count = s.recs.length ∧ h.count < 250 ∧ D1 m r = true ∧ (j7 m (p5 m s) r).ok = true ∧ (j7 m h.state r).ok = true ∧
  (s6 m h s r).h = ⟨h.age, h.count + 1, (j7 m h.state r).c⟩ ∧ (s6 m h s r).s = ⟨s.age, s.base, s.recs ++ [r]⟩ ∧ (s6 m h s r).k = (j7 m h.state r).code := by
 unfold s6 at *
 split at hn
 ·rename_i hc
  rw [if_pos hc]
  split at hn
  ·rename_i h1
   exact absurd hn h1
  split at hn
  ·cases hn
  ·rename_i h1 h2
   rw [if_neg h1, if_neg h2]
   have h1 : (G4 m s h.age h.count r).n = 1 := Classical.not_not.1 h1
   have hl := (u0.1 hc.2).2.2.1
   rcases a1B m s h.age h.count r with ⟨_, h3⟩ | ⟨h3, h4, h5, h6, h7, h8, h9⟩
   ·omega
   ·exact ⟨hc.1, hc.2, h5, h6, by omega, h8, h9, by simpa using h2, rfl, h3, rfl⟩
 ·cases hn
theorem c0L {m : PMap} {h : Hld} {s : Sto} {r : Rec} (hh : N3 m h = true) (hs : x8 m s = true) : (s6 m h s r).n = 2 ↔ h.age ≠ s.age := by
 constructor
 ·intro hn he
  unfold s6 at hn
  rw [if_pos ⟨hh, hs⟩] at hn
  split at hn
  ·rcases a1B m s h.age h.count r with ⟨_, h2⟩ | ⟨_, h2, _⟩
   ·have hn : (G4 m s h.age h.count r).n = 2 := hn
    omega
   ·have hn : (G4 m s h.age h.count r).n = 2 := hn
    omega
  split at hn
  ·cases hn
  ·cases hn
 ·intro he
  exact (b2e hh hs he).2.2
theorem a6U (m : PMap) (c : Cll) (i : Nat) (w : Wlk) (o : Ord) : (L9 m c i w o).c.cell = c.cell := by
 unfold L9 V2 V4 V5 V3 O2
 repeat' split
 all_goals rfl
theorem c8i (m : PMap) (c : Cll) (o : Ord) : (E6 m c o).c.cell = c.cell := by
 unfold E6
 split
 ·rfl
 ·simp only
  split
  ·rfl
  ·split
   ·rfl
   ·exact a6U m c _ _ o
theorem V8 (m : PMap) (c : Cll) (r : Rec) : (j7 m c r).c.cell = c.cell := by
 unfold j7
 split
 ·split
  ·exact c8i m c r.ord
  ·rfl
 ·split
  ·rfl
  ·split
   ·simp only [s7]
    split
    ·rfl
    ·split
     ·rfl
     ·split <;> rfl
   ·simp only [D3]
    split <;> rfl
theorem a7N (m : PMap) (c : Cll) (l : List Rec) : ∀ k, (r7 m c l k).cell = c.cell
 | 0 => rfl
 | k + 1 => by rw [J8, V8, a7N m c l k]
theorem a0f (m : PMap) (s : Sto) : (p5 m s).cell = s.base.cell := a7N m s.base s.recs _
def n3 (x : Msg) : Rec := if x.kind = 2 then ⟨1, x.ord, 0, u5, 0⟩ else if x.kind = 5 then ⟨2, s5, x.side, x.pcl, 0⟩ else ⟨3, s5, x.side, u5, x.n⟩
def m9 (st : List Sto) (x : Msg) : Sto := nth .sto st x.cell.toNat
inductive Eff (m : PMap) (s : Srv) (st : List Sto) (x : Msg) : Srv → List Sto → Prop
 | same : Eff m s st x s st
 | ghost (hu : s.up = true) (hk : x.kind = 7) : Eff m s st x ⟨s.up, s.holds, a0X s.n0 x.gst⟩ st
 | grant (hu : s.up = true) (hk : x.kind = 1) (hn : v5 s x.cell = true → (b9 s x.cell).age < x.n) (ha : (m9 st x).age ≤ x.n) :
   Eff m s st x ⟨s.up, putH s.holds ⟨x.n, (m9 st x).recs.length, p5 m (m9 st x)⟩, s.n0⟩ (st.set x.cell.toNat ⟨x.n, (m9 st x).base, (m9 st x).recs⟩)
 | lost (hu : s.up = true) (hk : x.kind = 2 ∨ x.kind = 5 ∨ x.kind = 6) (hh : v5 s x.cell = true) (ha : (b9 s x.cell).age ≠ (m9 st x).age) : Eff m s st x ⟨s.up, C5 s.holds x.cell, s.n0⟩ st
 | write (hu : s.up = true) (hk : x.kind = 2 ∨ x.kind = 5 ∨ x.kind = 6) (hh : v5 s x.cell = true) (ha : (b9 s x.cell).age = (m9 st x).age) (hc : (b9 s x.cell).count = (m9 st x).recs.length) (hl : (b9 s x.cell).count < 250)
   (hr : D1 m (n3 x) = true) (h1 : (j7 m (p5 m (m9 st x)) (n3 x)).ok = true) (h2 : (j7 m (b9 s x.cell).state (n3 x)).ok = true)
   (hf : x.kind = 2 → o9 (b9 s x.cell).state.wlks x.ord.who = true ∧ (B3 (b9 s x.cell).state.wlks x.ord.who).seq < x.ord.seq)
   (hp : x.kind = 5 → nth .int (b9 s x.cell).state.ins x.side.toNat ≤ x.pcl.n) :
   Eff m s st x ⟨s.up, putH s.holds ⟨(b9 s x.cell).age, (b9 s x.cell).count + 1, (j7 m (b9 s x.cell).state (n3 x)).c⟩, s.n0⟩ (st.set x.cell.toNat ⟨(m9 st x).age, (m9 st x).base, (m9 st x).recs ++ [n3 x]⟩)
theorem a1I {m : PMap} {st : List Sto} {v : Int} {x : Msg} (h : x7 m st = true) (hx : s9 m v x = true) : 0 ≤ x.cell ∧ x.cell.toNat < st.length ∧ x8 m (m9 st x) = true ∧ (m9 st x).base.cell = x.cell := by
 obtain ⟨h1, h2⟩ := a9i hx
 obtain ⟨h3, h4, h5⟩ := B4.1 h
 have hl : x.cell.toNat < st.length := by omega
 obtain ⟨h6, h7⟩ := h5 _ hl
 exact ⟨h1, hl, h6, by rw [m9, h7]; omega⟩
theorem a1r {m : PMap} {v : Int} {x : Msg} (hx : s9 m v x = true) : (x.kind = 1 ∨ x.kind = 2 ∨ x.kind = 5 ∨ x.kind = 6 ∨ x.kind = 7) ∧ 0 ≤ x.dest ∧ x.dest < v ∨ (x.kind = 3 ∨ x.kind = 4) ∧ x.dest = -1 := by
 simp only [s9, E0, decide_eq_true_eq] at hx
 omega
theorem R0 {m : PMap} {s : Srv} {st : List Sto} {v : Int} {x : Msg} (hs : y3 m s = true) (hst : x7 m st = true) (hx : s9 m v x = true) (hu : s.up = true) (hk : x.kind = 2 ∨ x.kind = 5 ∨ x.kind = 6) (hh : v5 s x.cell = true)
  (hf : x.kind = 2 → o9 (b9 s x.cell).state.wlks x.ord.who = true ∧ (B3 (b9 s x.cell).state.wlks x.ord.who).seq < x.ord.seq)
  (hp : x.kind = 5 → nth .int (b9 s x.cell).state.ins x.side.toNat ≤ x.pcl.n) :
  Eff m s st x (y8 m s st x.cell (n3 x)).srv (y8 m s st x.cell (n3 x)).stores ∧
  ((y8 m s st x.cell (n3 x)).n = 1 → (y8 m s st x.cell (n3 x)).k = (j7 m (b9 s x.cell).state (n3 x)).code ∧ (y8 m s st x.cell (n3 x)).stores = st.set x.cell.toNat ⟨(m9 st x).age, (m9 st x).base, (m9 st x).recs ++ [n3 x]⟩ ∧
   (b9 s x.cell).age = (m9 st x).age ∧ (b9 s x.cell).count = (m9 st x).recs.length ∧ (j7 m (b9 s x.cell).state (n3 x)).ok = true ∧ (j7 m (p5 m (m9 st x)) (n3 x)).ok = true ∧ D1 m (n3 x) = true) := by
 obtain ⟨_, _, hso, _⟩ := a1I hst hx
 obtain ⟨hm, _⟩ := D7 hh
 obtain ⟨_, _, hall, hsort⟩ := A6.1 hs
 have hho := hall _ hm
 unfold y8
 simp only
 rw [a2a hsort]
 split
 ·rename_i hn
  obtain ⟨g1, g2, g3, g4, g5, g6, g7, g8, g9, g10, g11⟩ := a8m hn
  refine ⟨?_, fun _ => ⟨g11, by rw [g10]; rfl, g3, g4, g8, g7, g6⟩⟩
  have := Eff.write hu hk hh g3 g4 g5 g6 g7 g8 hf hp
  rw [g9, g10]
  exact this
 ·split
  ·rename_i hn1 hn
   exact ⟨.lost hu hk hh ((c0L hho hso).1 hn), fun h => by cases h⟩
  ·rename_i hn1 hn2
   exact ⟨.same, fun h => absurd h hn1⟩
theorem a6W {m : PMap} {s : Srv} {st : List Sto} {t : Arb} {v : Int} {x : Msg} (hs : y3 m s = true) (hst : x7 m st = true) (hx : s9 m v x = true) : Eff m s st x (n5 m s st t x).srv (n5 m s st t x).stores := by
 obtain ⟨_, _, _, hsort⟩ := A6.1 hs
 unfold n5
 split
 ·exact .same
 rename_i hu0
 have hu : s.up = true := by
  cases h : s.up with
  | true => rfl
  | false => exact absurd (.inl h) hu0
 have hkk := a1r hx
 have hd : ¬ x.dest = -1 := fun h => hu0 (.inr h)
 split
 ·rename_i hk
  unfold I0
  split
  ·exact .same
  rename_i hn
  split
  ·exact .same
  rename_i ha
  rw [a2a hsort]
  refine .grant hu hk (fun hh => ?_) ?_
  ·exact Int.not_le.1 fun hle => hn ⟨hh, hle⟩
  ·exact Int.not_lt.1 ha
 split
 ·rename_i hk1 hk
  exact .ghost hu hk
 split
 ·exact .same
 rename_i hk1 hk7 hno
 have hh : v5 s x.cell = true := by simpa using hno
 split
 ·rename_i hk
  unfold R4
  simp only
  split
  ·exact .same
  rename_i hw
  split
  ·exact .same
  rename_i hq1
  split
  ·exact .same
  rename_i hq2
  have e : n3 x = ⟨1, x.ord, 0, u5, 0⟩ := by rw [n3, if_pos hk]
  rw [← e]
  exact (R0 hs hst hx hu (.inl hk) hh (fun _ => ⟨by simpa using hw, by omega⟩) (fun h => by omega)).1
 split
 ·rename_i hk2 hk
  unfold R3
  simp only
  split
  ·exact .same
  rename_i hq
  have e : n3 x = ⟨2, s5, x.side, x.pcl, 0⟩ := by rw [n3, if_neg hk2, if_pos hk]
  rw [← e]
  exact (R0 hs hst hx hu (.inr (.inl hk)) hh (fun h => by omega) (fun _ => Int.not_lt.1 hq)).1
 ·rename_i hk2 hk5
  have e : n3 x = ⟨3, s5, x.side, u5, x.n⟩ := by rw [n3, if_neg hk2, if_neg hk5]
  simp only
  rw [← e]
  have hk6 : x.kind = 6 := by omega
  exact (R0 hs hst hx hu (.inr (.inr hk6)) hh (fun h => by omega) (fun h => by omega)).1
theorem H0 (t : RT) {l : List t.ty} {i j : Nat} {x : t.ty} (hi : i < l.length) : nth t (l.set i x) j = if j = i then x else nth t l j := by
 by_cases h : j = i
 ·subst h
  rw [if_pos rfl, l9 t hi]
 ·rw [if_neg h, n9 t (fun hh => h hh.symm)]
theorem b3U {m : PMap} {st : List Sto} {i : Nat} {s : Sto} (h : x7 m st = true) (hi : i < st.length) (hs : x8 m s = true) (hb : s.base = (nth .sto st i).base) : x7 m (st.set i s) = true := by
 obtain ⟨h1, h2, h3⟩ := B4.1 h
 refine B4.2 ⟨h1, by simpa using h2, fun j hj => ?_⟩
 rw [List.length_set] at hj
 rw [H0 .sto hi]
 split
 ·rename_i he
  subst he
  exact ⟨hs, by rw [hb]; exact (h3 j hi).2⟩
 ·exact h3 j hj
theorem c7c {m : PMap} {s : Sto} {r : Rec} (h : x8 m s = true) (hl : (s.recs.length : Int) < 250) (hr : D1 m r = true) (ha : (j7 m (p5 m s) r).ok = true) : x8 m ⟨s.age, s.base, s.recs ++ [r]⟩ = true := by
 obtain ⟨h1, h2, h3, h4⟩ := u0.1 h
 refine u0.2 ⟨h1, h2, ?_, b1H h4 hr ha⟩
 simp
 omega
theorem c6a {m : PMap} {s s' : Srv} {st st' : List Sto} {v : Int} {x : Msg} (hs : y3 m s = true) (hst : x7 m st = true) (hx : s9 m v x = true) (he : Eff m s st x s' st') : y3 m s' = true ∧ x7 m st' = true ∧ st'.length = st.length ∧ s'.up = s.up := by
 obtain ⟨hc0, hcl, hso, hbc⟩ := a1I hst hx
 obtain ⟨hg, hup, hh, hso2⟩ := A6.1 hs
 cases he with
 | same => exact ⟨hs, hst, rfl, rfl⟩
 | ghost hu hk =>
  have hgo : Y3 m x.gst = true := by
   simp only [s9, E0, decide_eq_true_eq] at hx
   grind
  exact ⟨A6.2 ⟨c2x hg hgo, a1g.2 (.inl hu), hh, hso2⟩, hst, rfl, rfl⟩
 | grant hu hk hn ha =>
  have hxn : 1 ≤ x.n ∧ x.n ≤ 900 := by
   simp only [s9, E0, decide_eq_true_eq] at hx
   omega
  obtain ⟨g1, g2⟩ := c6N (m := m) (s := m9 st x) (a := x.n) hso (by omega) (by omega)
  refine ⟨A6.2 ⟨hg, a1g.2 (.inl hu), fun h hm => ?_, a6H hso2⟩, b3U hst hcl g1 rfl, by simp, rfl⟩
  rcases P2 hso2 hm with rfl | ⟨h1, _⟩
  ·have hl := (u0.1 hso).2.2.1
   exact y5.2 ⟨hxn, ⟨by simp, by simp; omega⟩, a2y hso⟩
  ·exact hh _ h1
 | lost hu hk hh2 ha => exact ⟨A6.2 ⟨hg, a1g.2 (.inl hu), fun h hm => hh _ (b3x.1 hm).1, c6h hso2⟩, hst, rfl, rfl⟩
 | write hu hk hh2 ha hc hl hr h1 h2 hf hp =>
  obtain ⟨hm1, hm2⟩ := D7 hh2
  obtain ⟨o1, o2, o3⟩ := y5.1 (hh _ hm1)
  refine ⟨A6.2 ⟨hg, a1g.2 (.inl hu), fun h hm => ?_, a6H hso2⟩, b3U hst hcl (c7c hso (by omega) hr h1) rfl, by simp, rfl⟩
  rcases P2 hso2 hm with rfl | ⟨h3, _⟩
  ·exact y5.2 ⟨o1, ⟨by simp only; omega, by simp only; omega⟩, a3f o3 hr⟩
  ·exact hh _ h3
theorem a2g {m : PMap} {t : Arb} {v : Int} (h : z5 m t v = true) (c : Int) (hne : n4 t c ≠ -1) : 0 ≤ n4 t c ∧ n4 t c < v ∧ 0 ≤ c ∧ c < m.cells := by
 have hl := F3 h
 unfold n4 at *
 split at hne
 ·rename_i hc
  rw [if_pos hc]
  obtain ⟨g1, g2, _⟩ := a7h h (k := c.toNat) (by omega)
  have g1 : @LE.le Int _ (-1) (nth .int t.servers c.toNat) := g1
  have g2 : @LE.le Int _ (nth .int t.servers c.toNat) (v - 1) := g2
  have hne : ¬ @Eq Int (nth .int t.servers c.toNat) (-1) := fun hh => hne hh
  have : @LE.le Int _ 0 (nth .int t.servers c.toNat) ∧ @LT.lt Int _ (nth .int t.servers c.toNat) v := ⟨by omega, by omega⟩
  exact ⟨this.1, this.2, hc.1, by omega⟩
 ·exact absurd rfl hne
theorem x6 {m : PMap} {c s : Int} (h : b6 m c s ≠ -1) : (s = 0 ∨ s = 1) ∧ n8 m = true ∧ 0 ≤ c ∧ c < m.cells ∧ 0 ≤ b6 m c s ∧ b6 m c s < m.cells ∧ b6 m (b6 m c s) (1 - s) = c ∧ b6 m c s = c + (2 * s - 1) := by
 obtain ⟨h1, h2, h3, h4⟩ := F8 h
 have e : b6 m c s = c + (2 * s - 1) := by
  rcases h4 with ⟨rfl, h5⟩ | ⟨rfl, h5⟩
  ·rw [b6, if_pos ⟨h1, h2, h3⟩, if_pos ⟨rfl, h5⟩]; omega
  ·rw [b6, if_pos ⟨h1, h2, h3⟩, if_neg (by omega), if_pos ⟨rfl, h5⟩]; omega
 rcases h4 with ⟨rfl, h5⟩ | ⟨rfl, h5⟩
 ·refine ⟨.inl rfl, h1, h2, h3, by omega, by omega, ?_, e⟩
  rw [e, b6, if_pos ⟨h1, by omega, by omega⟩, if_neg (by omega), if_pos ⟨by omega, by omega⟩]
  omega
 ·refine ⟨.inr rfl, h1, h2, h3, by omega, by omega, ?_, e⟩
  rw [e, b6, if_pos ⟨h1, by omega, by omega⟩, if_pos ⟨by omega, by omega⟩]
  omega
theorem c2f (m : PMap) (c : Cll) (i : Nat) (w : Wlk) (o : Ord) : 1 ≤ (L9 m c i w o).code ∧ (L9 m c i w o).code ≤ 7 := by
 unfold L9 V2 V4 V5 V3 O2
 repeat' split
 all_goals (simp [D9])
theorem c8h {m : PMap} {c : Cll} {o : Ord} (h : J3 c o = true) : 1 ≤ (E6 m c o).code ∧ (E6 m c o).code ≤ 7 := by
 obtain ⟨h1, h2⟩ := Q7 h
 rw [E6, if_neg h1]
 simp only
 rw [if_neg (by omega), if_neg (by omega)]
 exact c2f m c _ _ o
theorem a8l : a0u s5 = true ∧ a2i u5 = true ∧ a1D E8 = true := by decide
theorem b8y {m : PMap} {v : Int} {x : Msg} {n : Int} (hx : s9 m v x = true) (hk : x.kind = 2) (h1 : 1 ≤ n) (h2 : n ≤ 9) : s9 m v (a0F x n) = true := by
 obtain ⟨z1, z2, z3⟩ := a8l
 simp only [s9, E0, decide_eq_true_eq, a0F] at hx ⊢
 grind
theorem away_ok {m : PMap} {v : Int} {x : Msg} (hx : s9 m v x = true) (hk : x.kind = 2) : s9 m v (a5D x) = true := by
 obtain ⟨z1, z2, z3⟩ := a8l
 simp only [s9, E0, decide_eq_true_eq, a5D] at hx ⊢
 grind
theorem a1q {m : PMap} {v : Int} {x : Msg} (hx : s9 m v x = true) (hk : x.kind = 5 ∨ x.kind = 6 ∨ x.kind = 7) : b6 m x.cell x.side ≠ -1 := by
 simp only [s9, E0, decide_eq_true_eq] at hx
 grind
theorem b9M {m : PMap} {v : Int} {x : Msg} (hx : s9 m v x = true) (hk : x.kind = 5) : H5 m x.pcl = true := by
 simp only [s9, E0, decide_eq_true_eq] at hx
 grind
theorem c7H {m : PMap} {v : Int} {x : Msg} (hx : s9 m v x = true) (hk : x.kind = 2 ∨ x.kind = 3 ∨ x.kind = 4) : J6 x.ord = true := by
 simp only [s9, E0, decide_eq_true_eq] at hx
 grind
theorem c5J {m : PMap} {t : Arb} {v : Int} {x : Msg} {n : Int} (ht : z5 m t v = true) (hx : s9 m v x = true) (hk : x.kind = 5) (h1 : 1 ≤ n) (h2 : n ≤ 5000) : ∀ z ∈ O4 m t x n, s9 m v z = true := by
 intro z hz
 unfold O4 at hz
 split at hz
 ·simp at hz
 rename_i hne
 simp only [List.mem_singleton] at hz
 subst hz
 have hsd := a1q hx (.inl hk)
 obtain ⟨g1, g2, g3, g4, g5, g6, g7, g8⟩ := x6 hsd
 obtain ⟨a1, a2, a3, a4⟩ := a2g ht _ hne
 obtain ⟨z1, z2, z3⟩ := a8l
 obtain ⟨_, _, _, l1, l2⟩ := F3 ht
 have g9 : b6 m (b6 m x.cell x.side) (1 - x.side) ≠ -1 := by omega
 have g10 : n4 t (b6 m x.cell x.side) ≤ v - 1 := by omega
 clear g7 g8 hne hsd ht hx hk
 generalize b6 m x.cell x.side = d at *
 generalize n4 t d = y at *
 simp only [s9, E0, decide_eq_true_eq]
 grind
theorem b9X (m : PMap) (t : Arb) (x : Msg) (n : Int) : (O4 m t x n).length ≤ 1 := by
 unfold O4
 split <;> simp
theorem b7G {m : PMap} {c : Cll} (h : q9 m c = true) {s : Nat} (hs : s < 2) : @LE.le Int _ 0 (nth .int c.ins s) ∧ @LE.le Int _ (nth .int c.ins s) 5000 := by
 exact ⟨(C2 h hs).2.1.1, (C2 h hs).2.1.2⟩
theorem c3U {m : PMap} {c : Cll} {s : Nat} {p : Pcl} (hs : s < c.ins.length) (h : (s7 m c s p).ok = true) : @Eq Int (nth .int (s7 m c s p).c.ins s) (nth .int c.ins s + 1) ∧ @Eq Int p.n (nth .int c.ins s) := by
 unfold s7 at *
 split at h
 ·cases h
 rename_i h1
 rw [if_neg h1]
 have hpn : @Eq Int p.n (nth .int c.ins s) := Classical.not_not.1 fun hh => h1 (.inl hh)
 split at h
 ·rename_i h2
  rw [if_pos h2]
  exact ⟨l9 .int hs, hpn⟩
 split at h
 ·cases h
 rename_i h2 h3
 rw [if_neg h2, if_neg h3]
 exact ⟨l9 .int hs, hpn⟩
theorem b1y {m : PMap} {s : Srv} {st : List Sto} {t : Arb} {v : Int} {x : Msg} (hs : y3 m s = true) (hst : x7 m st = true) (ht : z5 m t v = true) (hx : s9 m v x = true) :
  (n5 m s st t x).out.length ≤ 1 ∧ ∀ z ∈ (n5 m s st t x).out, s9 m v z = true := by
 have nil : (([] : List Msg)).length ≤ 1 ∧ ∀ z ∈ ([] : List Msg), s9 m v z = true := ⟨by simp, by simp⟩
 have one : ∀ y : Msg, s9 m v y = true → ([y] : List Msg).length ≤ 1 ∧ ∀ z ∈ [y], s9 m v z = true := fun y hy => ⟨by simp, fun z hz => by simp at hz; subst hz; exact hy⟩
 obtain ⟨_, _, hall, _⟩ := A6.1 hs
 unfold n5
 split
 ·exact nil
 rename_i hu0
 have hu : s.up = true := by
  cases h : s.up with
  | true => rfl
  | false => exact absurd (.inl h) hu0
 split
 ·unfold I0
  split
  ·exact nil
  split
  ·exact nil
  ·exact nil
 split
 ·exact nil
 split
 ·exact nil
 rename_i hk1 hk7 hno
 have hh : v5 s x.cell = true := by simpa using hno
 obtain ⟨hm, hmc⟩ := D7 hh
 have hco := (y5.1 (hall _ hm)).2.2
 split
 ·rename_i hk
  unfold R4
  simp only
  split
  ·exact one _ (away_ok hx hk)
  rename_i hw
  split
  ·exact nil
  rename_i hq1
  split
  ·rename_i hq2
   split
   ·exact nil
   ·rename_i hl0
    have hw' : o9 (b9 s x.cell).state.wlks x.ord.who = true := by simpa using hw
    have hf := a2Z hw'
    have hwo := G7 hco (L7 hw').1
    refine one _ (b8y hx hk ?_ ?_)
    ·rw [hf] at hl0 ⊢
     omega
    ·rw [hf]
     omega
  rename_i hq2
  have e : n3 x = ⟨1, x.ord, 0, u5, 0⟩ := by rw [n3, if_pos hk]
  rw [← e]
  have hw' : o9 (b9 s x.cell).state.wlks x.ord.who = true := by simpa using hw
  have W := (R0 hs hst hx hu (.inl hk) hh (fun _ => ⟨hw', by omega⟩) (fun h => by omega)).2
  split
  ·rename_i hn
   obtain ⟨g1, _, _, _, g2, _⟩ := W hn
   have hfr : J3 (b9 s x.cell).state x.ord = true := by
    simp only [J3, Bool.and_eq_true, decide_eq_true_eq]
    exact ⟨hw', by omega⟩
   have hcode : (j7 m (b9 s x.cell).state (n3 x)).code = (E6 m (b9 s x.cell).state x.ord).code := by
    rw [e, j7, if_pos rfl, if_pos hfr]
   have := c8h (m := m) hfr
   refine one _ (b8y hx hk ?_ ?_)
   ·rw [g1, hcode]; omega
   ·rw [g1, hcode]; omega
  ·exact nil
 split
 ·rename_i hk2 hk
  have hsd := a1q hx (.inl hk)
  obtain ⟨s1, _⟩ := x6 hsd
  have hs2 : x.side.toNat < 2 := by omega
  have hii := b7G hco hs2
  have hpp := L5.1 (b9M hx hk)
  unfold R3
  simp only
  split
  ·rename_i hq
   have hq : @LT.lt Int _ x.pcl.n (nth .int (b9 s x.cell).state.ins x.side.toNat) := hq
   exact ⟨b9X _ _ _ _, c5J ht hx hk (by omega) (by omega)⟩
  rename_i hq
  have e : n3 x = ⟨2, s5, x.side, x.pcl, 0⟩ := by rw [n3, if_neg hk2, if_pos hk]
  rw [← e]
  have W := (R0 hs hst hx hu (.inr (.inl hk)) hh (fun h => by omega) (fun _ => Int.not_lt.1 hq)).2
  split
  ·rename_i hn
   obtain ⟨_, _, _, _, g2, _, g3⟩ := W hn
   have hok2 := a3f hco g3
   have happ : j7 m (b9 s x.cell).state (n3 x) = ⟨(s7 m (b9 s x.cell).state x.side.toNat x.pcl).c, 0, (s7 m (b9 s x.cell).state x.side.toNat x.pcl).ok⟩ := by
    rw [e, j7, if_neg (by simp), if_neg (by rw [hmc]; exact hsd), if_pos rfl]
   rw [happ] at g2 hok2
   have hl2 := (n6 hco).2.2.2.2.2.2.2.2
   have hri := c3U (s := x.side.toNat) (by omega) g2
   have hi2 := b7G hok2 hs2
   simp only at hi2
   exact ⟨b9X _ _ _ _, c5J ht hx hk (by omega) (by omega)⟩
  ·exact nil
 ·exact nil
theorem b5U {m : PMap} {t : Arb} {x z : Msg} {n : Int} (h : z ∈ O4 m t x n) : z.kind = 6 := by
 unfold O4 at h
 split at h
 ·simp at h
 ·simp at h; rw [h]
theorem a5p {m : PMap} {s : Srv} {st : List Sto} {t : Arb} {x z : Msg} (h : z ∈ (n5 m s st t x).out) : z.kind = 3 ∨ z.kind = 4 ∨ z.kind = 6 := by
 unfold n5 at h
 split at h
 ·simp at h
 split at h
 ·unfold I0 at h
  split at h
  ·simp at h
  split at h
  ·simp at h
  ·simp at h
 split at h
 ·simp at h
 split at h
 ·simp at h
 split at h
 ·unfold R4 at h
  simp only at h
  split at h
  ·simp at h; rw [h]; exact .inr (.inl rfl)
  split at h
  ·simp at h
  split at h
  ·split at h
   ·simp at h
   ·simp at h; rw [h]; exact .inl rfl
  split at h
  ·simp at h; rw [h]; exact .inl rfl
  ·simp at h
 split at h
 ·unfold R3 at h
  simp only at h
  split at h
  ·exact .inr (.inr (b5U h))
  split at h
  ·exact .inr (.inr (b5U h))
  ·simp at h
 ·simp at h
theorem n7 {w : Wld} : p9 w = true ↔ z5 w.map w.table w.servers.length = true ∧ x7 w.map w.stores = true ∧ y6 w.map w.rows = true ∧ w.net.length ≤ 40 ∧ w.notes.length ≤ 150 ∧
  (∀ i, i < w.stores.length → (nth .sto w.stores i).age ≤ nth .int w.table.ages i) ∧ (∀ s ∈ w.servers, y3 w.map s = true ∧ ∀ h ∈ s.holds, h.age ≤ nth .int w.table.ages h.state.cell.toNat) ∧
  (∀ x ∈ w.net, s9 w.map w.servers.length x = true ∧ (x.kind = 1 → x.n ≤ nth .int w.table.ages x.cell.toNat)) ∧ ∀ n ∈ w.notes, a4p n = true := by
 simp only [p9, Bool.and_eq_true, decide_eq_true_eq, and_assoc]
 refine and_congr_right fun _ => and_congr_right fun _ => and_congr_right fun _ => and_congr_right fun _ => and_congr_right fun _ => ?_
 refine and_congr ?_ (and_congr ?_ (and_congr ?_ ?_))
 ·rw [j9]; simp only [a0q, decide_eq_true_eq]
 ·rw [j9]
  simp only [a2m, Bool.and_eq_true, j9, a3k, decide_eq_true_eq]
  constructor
  ·intro h s hs
   obtain ⟨i, hi, rfl⟩ := K7 .srv hs
   refine ⟨(h i hi).1, fun g hg => ?_⟩
   obtain ⟨j, hj, rfl⟩ := K7 .hld hg
   exact (h i hi).2 j hj
  ·intro h i hi
   have := h _ (r8 .srv hi)
   exact ⟨this.1, fun j hj => this.2 _ (r8 .hld hj)⟩
 ·rw [j9]
  simp only [a5C, Bool.and_eq_true, decide_eq_true_eq]
  constructor
  ·intro h s hs
   obtain ⟨i, hi, rfl⟩ := K7 .msg hs
   exact h i hi
  ·intro h i hi
   exact h _ (r8 .msg hi)
 ·rw [j9]
  simp only [b7z]
  constructor
  ·intro h s hs
   obtain ⟨i, hi, rfl⟩ := K7 .note hs
   exact h i hi
  ·intro h i hi
   exact h _ (r8 .note hi)
theorem a4S {w : Wld} {l : List Msg} (h : p9 w = true) (hl : ∀ x ∈ l, s9 w.map w.servers.length x = true ∧ (x.kind = 1 → x.n ≤ nth .int w.table.ages x.cell.toNat)) : p9 (u4 w l) = true := by
 obtain ⟨h1, h2, h3, h4, h5, h6, h7, h8, h9⟩ := n7.1 h
 refine n7.2 ⟨h1, h2, h3, ?_, h5, h6, h7, fun x hx => ?_, h9⟩
 ·simp only [u4, List.length_append, List.length_take]; omega
 ·simp only [u4, List.mem_append] at hx
  rcases hx with hx | hx
  ·exact h8 x hx
  ·exact hl x (List.mem_of_mem_take hx)
theorem c6y {w : Wld} {i : Nat} (h : p9 w = true) : p9 (wCut w i) = true := by
 obtain ⟨h1, h2, h3, h4, h5, h6, h7, h8, h9⟩ := n7.1 h
 refine n7.2 ⟨h1, h2, h3, ?_, h5, h6, h7, fun x hx => h8 x (List.mem_of_mem_eraseIdx hx), h9⟩
 have := List.length_eraseIdx_le w.net i
 simp only [wCut]; omega
theorem c6b {m : PMap} {s s' : Srv} {st st' : List Sto} {v : Int} {x : Msg} {A : List Int} (hs : y3 m s = true) (hst : x7 m st = true) (hx : s9 m v x = true) (he : Eff m s st x s' st') (hA : (A.length : Int) = m.cells)
  (h1 : ∀ i, i < st.length → (nth .sto st i).age ≤ nth .int A i) (h2 : ∀ h ∈ s.holds, h.age ≤ nth .int A h.state.cell.toNat) (h3 : x.kind = 1 → x.n ≤ nth .int A x.cell.toNat) :
  (∀ i, i < st'.length → (nth .sto st' i).age ≤ nth .int A i) ∧ ∀ h ∈ s'.holds, h.age ≤ nth .int A h.state.cell.toNat := by
 obtain ⟨hc0, hcl, hso, hbc⟩ := a1I hst hx
 obtain ⟨hg, hup, hh, hso2⟩ := A6.1 hs
 cases he with
 | same => exact ⟨h1, h2⟩
 | ghost hu hk => exact ⟨h1, h2⟩
 | grant hu hk hn ha =>
  refine ⟨fun i hi => ?_, fun h hm => ?_⟩
  ·rw [List.length_set] at hi
   rw [H0 .sto hcl]
   split
   ·rename_i he; subst he; exact h3 hk
   ·exact h1 i hi
  ·rcases P2 hso2 hm with rfl | ⟨h5, _⟩
   ·simp only
    rw [a0f, hbc]
    exact h3 hk
   ·exact h2 h h5
 | lost hu hk hh2 ha => exact ⟨h1, fun h hm => h2 h (b3x.1 hm).1⟩
 | write hu hk hh2 ha hc hl hr g1 g2 hf hp =>
  obtain ⟨hm1, hm2⟩ := D7 hh2
  refine ⟨fun i hi => ?_, fun h hm => ?_⟩
  ·rw [List.length_set] at hi
   rw [H0 .sto hcl]
   split
   ·rename_i he; subst he; exact h1 _ hcl
   ·exact h1 i hi
  ·rcases P2 hso2 hm with rfl | ⟨h5, _⟩
   ·simp only
    rw [V8]
    exact h2 _ hm1
   ·exact h2 h h5
theorem c7T {w : Wld} {x : Msg} (h : p9 w = true) (hx : s9 w.map w.servers.length x = true) (hx2 : x.kind = 1 → x.n ≤ nth .int w.table.ages x.cell.toNat) (hd : x.dest ≠ -1) : p9 (a1c w x) = true ∧ (a1c w x).servers.length = w.servers.length := by
 obtain ⟨h1, h2, h3, h4, h5, h6, h7, h8, h9⟩ := n7.1 h
 have hdd : 0 ≤ x.dest ∧ x.dest < w.servers.length := by
  rcases a1r hx with ⟨_, g1, g2⟩ | ⟨_, g⟩
  ·exact ⟨g1, g2⟩
  ·exact absurd g hd
 have hdn : x.dest.toNat < w.servers.length := by omega
 obtain ⟨o1, o2⟩ := h7 _ (r8 .srv hdn)
 have he := a6W (t := w.table) o1 h2 hx
 obtain ⟨e1, e2, e3, e4⟩ := c6a o1 h2 hx he
 obtain ⟨_, hal, _⟩ := F3 h1
 obtain ⟨a1, a2⟩ := c6b o1 h2 hx he hal h6 o2 hx2
 refine ⟨?_, by simp [a1c, u4]⟩
 unfold a1c
 simp only
 refine a4S ?_ fun z hz => ?_
 ·refine n7.2 ⟨by simpa using h1, e2, h3, h4, h5, a1, fun s hs => ?_, by simpa using h8, h9⟩
  rcases List.mem_or_eq_of_mem_set hs with hs | rfl
  ·exact h7 s hs
  ·exact ⟨e1, a2⟩
 ·have ho := (b1y o1 h2 h1 hx).2 z hz
  refine ⟨by simpa using ho, fun hk => ?_⟩
  have := a5p hz
  omega
theorem b3n {m : PMap} {l : List Row} {i : Nat} {r : Row} (h : y6 m l = true) (hi : i < l.length) (hr : R7 m r = true) (hw : r.who = (nth .row l i).who) : y6 m (l.set i r) = true := by
 have h0 := h
 unfold y6 at h ⊢
 rw [Bool.and_eq_true] at h ⊢
 refine ⟨h.1, (j9 _ _).2 fun j hj => ?_⟩
 rw [List.length_set] at hj
 obtain ⟨h1, h2⟩ := a6X h0 hj
 have hwho : ∀ k, (nth .row (l.set i r) k).who = (nth .row l k).who := fun k => by
  rw [H0 .row hi]
  split
  ·rename_i he; subst he; exact hw
  ·rfl
 simp only [H7, Bool.and_eq_true, Bool.or_eq_true, decide_eq_true_eq, hwho]
 refine ⟨?_, ?_⟩
 ·rw [H0 .row hi]
  split
  ·exact hr
  ·exact h1
 ·by_cases hj0 : j = 0
  ·exact .inl hj0
  ·exact .inr (h2 (by omega))
theorem b6Q {m : PMap} {l : List Row} {who : Int} (h : y6 m l = true) (hp : 0 ≤ k8 l who) : R7 m (rowAt l who) = true ∧ (rowAt l who).who = who ∧ (k8 l who).toNat < l.length := by
 have hlt := a0S l who
 have hl : (k8 l who).toNat < l.length := by omega
 exact ⟨(a6X h hl).1, b2y hp, hl⟩
theorem c7W {m : PMap} {l : List Row} (h : y6 m l = true) : n8 m = true := by
 unfold y6 at h
 rw [Bool.and_eq_true] at h
 exact h.1
theorem Z8 {m : PMap} {r : Row} : R7 m r = true ↔ (1 ≤ r.who ∧ r.who ≤ 9 ∧ 0 ≤ r.cell ∧ r.cell < m.cells ∧ 0 ≤ r.seq ∧ r.seq ≤ 900 ∧ 0 ≤ r.code ∧ r.code ≤ 9) ∧ (r.busy = false → a0u r.ord = true) ∧ (r.busy = true → J6 r.ord = true ∧ r.ord.who = r.who ∧ r.ord.seq = r.seq + 1) := by
 simp only [R7, decide_eq_true_eq]
 constructor
 ·rintro ⟨a, b, c, d, e, f, g, h, i, j⟩
  exact ⟨⟨a, b, c, d, e, f, g, h⟩, i, j⟩
 ·rintro ⟨⟨a, b, c, d, e, f, g, h⟩, i, j⟩
  exact ⟨a, b, c, d, e, f, g, h, i, j⟩
theorem c6F {c n : Int} (h0 : 0 ≤ c) (h1 : c < n) (h2 : n ≤ 4) : 0 ≤ (c + 1).tmod n ∧ (c + 1).tmod n < n := by
 constructor
 ·exact Int.tmod_nonneg _ (by omega)
 ·have := Int.tmod_lt_of_pos (c + 1) (show 0 < n by omega)
  omega
theorem a9A {m : PMap} {l : List Row} {v : Int} {x : Msg} (h : y6 m l = true) (hx : s9 m v x = true) : y6 m (y0 m l x).b = true ∧ (y0 m l x).b.length = l.length ∧
  ((y0 m l x).ok = true → x.kind = 3 ∧ 0 ≤ k8 l x.ord.who ∧ (rowAt l x.ord.who).busy = true ∧ (rowAt l x.ord.who).ord = x.ord ∧ a4p ⟨x.ord.who, x.ord.seq, x.n⟩ = true) := by
 unfold y0
 simp only
 split
 ·rename_i hc
  obtain ⟨hp, hb, ho⟩ := hc
  obtain ⟨r1, r2, r3⟩ := b6Q h hp
  obtain ⟨g1, g2, g3⟩ := Z8.1 r1
  obtain ⟨g4, g5, g6⟩ := g3 hb
  rw [ho] at g4 g6
  obtain ⟨m1, m2⟩ := a9i hx
  have hpl := r6.1 (c7W h)
  split
  ·rename_i hk
   have hn : 1 ≤ x.n ∧ x.n ≤ 9 := by
    simp only [s9, E0, decide_eq_true_eq] at hx
    grind
   have hoo := G6.1 g4
   refine ⟨b3n h r3 (Z8.2 ⟨⟨by simp only; omega, by simp only; omega, m1, m2, by simp only; omega, by simp only; omega, by simp only; omega, hn.2⟩, fun _ => a8l.1, fun hh => by cases hh⟩) rfl, by simp, fun _ => ⟨hk, hp, hb, ho, ?_⟩⟩
   simp only [a4p, decide_eq_true_eq]
   omega
  ·split
   ·rename_i hk
    have hcr := c6F g1.2.2.1 g1.2.2.2.1 (by omega)
    refine ⟨b3n h r3 (Z8.2 ⟨⟨g1.1, g1.2.1, hcr.1, hcr.2, g1.2.2.2.2⟩, g2, g3⟩) rfl, by simp, fun hh => by cases hh⟩
   ·exact ⟨h, rfl, fun hh => by cases hh⟩
 ·exact ⟨h, rfl, fun hh => by cases hh⟩
theorem c2v {m : PMap} {l : List Row} {who kind dest n : Int} (h : y6 m l = true) : y6 m (L8 l who kind dest n).b = true ∧ (L8 l who kind dest n).b.length = l.length := by
 unfold L8
 split
 ·rename_i hc
  obtain ⟨hp, hb, ho⟩ := hc
  obtain ⟨r1, r2, r3⟩ := b6Q h hp
  have r1 : R7 m (nth .row l (k8 l who).toNat) = true := r1
  have r2 : (nth .row l (k8 l who).toNat).who = who := r2
  obtain ⟨g1, g2, g3⟩ := Z8.1 r1
  exact ⟨b3n h r3 (Z8.2 ⟨g1, (fun hh => by cases hh), fun _ => ⟨ho, r2.symm, rfl⟩⟩) rfl, by simp⟩
 ·exact ⟨h, rfl⟩
theorem c2t {m : PMap} {l : List Row} {t : Arb} {v who : Int} (h : y6 m l = true) (ht : z5 m t v = true) (hs : (Q2 l t who).ok = true) : s9 m v (Q2 l t who).x = true ∧ (Q2 l t who).x.kind = 2 := by
 unfold Q2 at *
 split at hs
 ·rename_i hc
  rw [if_pos hc]
  obtain ⟨hp, hb, ho⟩ := hc
  obtain ⟨r1, r2, r3⟩ := b6Q h hp
  obtain ⟨g1, g2, g3⟩ := Z8.1 r1
  obtain ⟨a1, a2, a3, a4⟩ := a2g ht _ ho
  obtain ⟨z1, z2, z3⟩ := a8l
  obtain ⟨_, _, l0, l1, l2⟩ := F3 ht
  have g4 := (g3 hb).1
  refine ⟨?_, rfl⟩
  have a2' : n4 t (rowAt l who).cell ≤ v - 1 := by omega
  generalize n4 t (rowAt l who).cell = y at *
  simp only [s9, E0, decide_eq_true_eq]
  grind
 ·cases hs
theorem a5Q {m : PMap} {t : Arb} {v cell server : Int} (ht : z5 m t v = true) (hg : (p6 t v cell server).ok = true) :
  z5 m (p6 t v cell server).t v = true ∧ 0 ≤ cell ∧ cell < m.cells ∧ 0 ≤ server ∧ server < v ∧ (p6 t v cell server).t = ⟨t.servers.set cell.toNat server, t.ages.set cell.toNat (nth .int t.ages cell.toNat + 1)⟩ ∧
  @LE.le Int _ 0 (nth .int t.ages cell.toNat) ∧ @LT.lt Int _ (nth .int t.ages cell.toNat) 900 := by
 unfold p6 at *
 split at hg
 ·rename_i hc
  rw [if_pos hc]
  obtain ⟨c1, c2, c3, c4, c5⟩ := hc
  obtain ⟨l1, l2, l3, l4, l5⟩ := F3 ht
  obtain ⟨b1, b2, b3, b4, b5⟩ := a7h ht (k := cell.toNat) (by omega)
  have b3 : @LE.le Int _ 0 (nth .int t.ages cell.toNat) := b3
  have b4 : @LE.le Int _ (nth .int t.ages cell.toNat) 900 := b4
  have c5 : ¬ @Eq Int (nth .int t.ages cell.toNat) 900 := c5
  refine ⟨?_, c1, by omega, c3, c4, rfl, b3, by omega⟩
  unfold z5
  rw [Bool.and_eq_true]
  refine ⟨by simp only [U2, decide_eq_true_eq, List.length_set]; exact ⟨l3, l4, l5, l1, l2⟩, (j9 _ _).2 fun k hk => ?_⟩
  rw [List.length_set] at hk
  have hk2 : cell.toNat < t.ages.length := by omega
  have hk3 : cell.toNat < t.servers.length := by omega
  obtain ⟨d1, d2, d3, d4, d5⟩ := a7h ht hk
  simp only [a2p, decide_eq_true_eq]
  rw [H0 .int hk3, H0 .int hk2]
  by_cases he : k = cell.toNat
  ·simp only [if_pos he]
   have : ∀ a : Int, 0 ≤ a → a ≤ 900 → ¬ a = 900 → -1 ≤ server ∧ server ≤ v - 1 ∧ 0 ≤ a + 1 ∧ a + 1 ≤ 900 ∧ (server = -1 ↔ a + 1 = 0) := fun a h1 h2 h3 => ⟨by omega, by omega, by omega, by omega, by omega⟩
   exact this _ b3 b4 c5
  ·simp only [if_neg he]
   exact ⟨d1, d2, d3, d4, d5⟩
 ·cases hg
theorem b8q {m : PMap} {t : Arb} {v cell server : Int} (ht : z5 m t v = true) (hg : (p6 t v cell server).ok = true) (i : Nat) : @LE.le Int _ (nth .int t.ages i) (nth .int (p6 t v cell server).t.ages i) := by
 obtain ⟨_, c1, c2, _, _, e, b3, b4⟩ := a5Q ht hg
 obtain ⟨_, l2, _⟩ := F3 ht
 rw [e]
 simp only
 rw [H0 .int (by omega)]
 split
 ·rename_i he
  subst he
  have : ∀ a : Int, a ≤ a + 1 := fun a => by omega
  exact this _
 ·exact Int.le_refl _
theorem c7a {m : PMap} {s : Srv} {t : Arb} {v cell : Int} (hs : y3 m s = true) (ht : z5 m t v = true) : ∀ z ∈ A8 m s t cell, s9 m v z = true ∧ (z.kind = 5 ∨ z.kind = 7) := by
 intro z hz
 unfold A8 at hz
 split at hz
 rotate_left
 ·simp at hz
 rename_i hh
 obtain ⟨hm, hc⟩ := D7 hh
 have hho := (A6.1 hs).2.2.1 _ hm
 generalize b9 s cell = h at *
 have hco := (y5.1 hho).2.2
 have hcf := n6 hco
 obtain ⟨z1, z2, z3⟩ := a8l
 obtain ⟨_, _, l0, l1, l2⟩ := F3 ht
 have go : ∀ side : Nat, side < 2 → ∀ z ∈ z6 m t h cell side, s9 m v z = true ∧ (z.kind = 5 ∨ z.kind = 7) := by
  intro side hsd z hz
  unfold z6 at hz
  simp only at hz
  split at hz
  ·simp at hz
  rename_i hne
  have hn1 : b6 m cell side ≠ -1 := fun e => hne (.inl e)
  have hn2 : n4 t (b6 m cell side) ≠ -1 := fun e => hne (.inr e)
  obtain ⟨g1, g2, g3, g4, g5, g6, g7, g8⟩ := x6 hn1
  obtain ⟨a1, a2, a3, a4⟩ := a2g ht _ hn2
  have g9 : b6 m (b6 m cell side) (1 - side) ≠ -1 := by omega
  have a5 : n4 t (b6 m cell side) ≤ v - 1 := by omega
  rcases List.mem_append.1 hz with hz | hz
  ·obtain ⟨p, hp, rfl⟩ := List.mem_map.1 hz
   refine ⟨?_, .inl rfl⟩
   have hpo : H5 m p = true := by
    have hp := List.mem_of_mem_take hp
    have hl := (C2 hco hsd).2.2.2
    rw [Int.toNat_natCast] at hp
    obtain ⟨i, hi, rfl⟩ := K7 .pcl hp
    exact ((I3.1 hl).2.2.2.2 i hi).1
   clear hn1 hn2 hne g7 g8 hz
   generalize b6 m cell side = d at *
   generalize n4 t d = y at *
   simp only [s9, E0, decide_eq_true_eq]
   grind
  ·obtain ⟨g, hg, rfl⟩ := List.mem_map.1 hz
   refine ⟨?_, .inr rfl⟩
   have hg := List.mem_of_mem_take hg
   unfold n0 ghTo at hg
   obtain ⟨w, hw, rfl⟩ := List.mem_map.1 hg
   rw [a8j] at hw
   obtain ⟨hw1, hw2⟩ := List.mem_filter.1 hw
   have hwo := (C4.1 hco).1 w hw1
   have hgo : Y3 m ⟨h.state.cell, h.count, w⟩ = true := by
    obtain ⟨_, k1, _⟩ := y5.1 hho
    simp only [Y3, decide_eq_true_eq]
    refine ⟨k1.1, k1.2, hwo.1, hwo.2, ?_⟩
    rcases g1 with g1 | g1
    ·rw [g1] at hw2; exact .inl hw2
    ·rw [g1] at hw2; exact .inr hw2
   have hsrc : h.state.cell = b6 m (b6 m cell side) (1 - side) := by rw [g7, hc]
   clear hn1 hn2 hne g7 g8 hz hw hg
   generalize b6 m cell side = d at *
   generalize n4 t d = y at *
   simp only [s9, E0, decide_eq_true_eq]
   grind
 rcases List.mem_append.1 hz with hz | hz
 ·exact go 0 (by omega) z hz
 ·exact go 1 (by omega) z hz
theorem b8C {w : Wld} {e : Evt} (h : p9 w = true) : p9 (u3 w e) = true ∧ (u3 w e).servers.length = w.servers.length ∧ (u3 w e).map = w.map := by
 obtain ⟨h1, h2, h3, h4, h5, h6, h7, h8, h9⟩ := n7.1 h
 have plain : ∀ z : Msg, z.kind ≠ 1 → (z.kind = 1 → z.n ≤ nth .int w.table.ages z.cell.toNat) := fun z hz hk => absurd hk hz
 unfold u3
 split
 ·simp only
  split
  ·rename_i hg
   obtain ⟨g1, c1, c2, c3, c4, ge, b3, b4⟩ := a5Q h1 hg
   have hmono := b8q h1 hg
   obtain ⟨l1, l2, l3, l4, l5⟩ := F3 h1
   refine ⟨a4S (n7.2 ⟨g1, h2, h3, h4, h5, fun i hi => Int.le_trans (h6 i hi) (hmono i), fun s hs => ⟨(h7 s hs).1, fun x hx => Int.le_trans ((h7 s hs).2 x hx) (hmono _)⟩, fun x hx => ⟨(h8 x hx).1, fun hk => Int.le_trans ((h8 x hx).2 hk) (hmono _)⟩, h9⟩) fun x hx => ?_, by simp [u4], rfl⟩
   simp only [List.mem_singleton] at hx
   subst hx
   refine ⟨?_, fun _ => Int.le_refl _⟩
   obtain ⟨z1, z2, z3⟩ := a8l
   have hn : @LE.le Int _ 1 (nth .int (p6 w.table w.servers.length e.pos e.dest).t.ages e.pos.toNat) ∧ @LE.le Int _ (nth .int (p6 w.table w.servers.length e.pos e.dest).t.ages e.pos.toNat) 900 := by
    rw [ge]
    simp only
    rw [l9 .int (by omega)]
    have : ∀ a : Int, 0 ≤ a → a < 900 → 1 ≤ a + 1 ∧ a + 1 ≤ 900 := fun a _ _ => by omega
    exact this _ b3 b4
   have hd : e.dest ≤ (w.servers.length : Int) - 1 := by omega
   generalize nth .int (p6 w.table w.servers.length e.pos e.dest).t.ages e.pos.toNat = y at *
   simp only [s9, E0, decide_eq_true_eq]
   grind
  ·exact ⟨h, rfl, rfl⟩
 split
 ·have hg := @c2v w.map w.rows e.pos e.what e.dest e.n h3
  exact ⟨n7.2 ⟨h1, h2, hg.1, h4, h5, h6, h7, h8, h9⟩, rfl, rfl⟩
 split
 ·split
  ·rename_i hs
   obtain ⟨g1, g2⟩ := c2t h3 h1 hs
   exact ⟨a4S h fun x hx => by
    simp only [List.mem_singleton] at hx
    subst hx
    exact ⟨g1, plain _ (by omega)⟩, by simp [u4], rfl⟩
  ·exact ⟨h, rfl, rfl⟩
 split
 ·split
  ·rename_i hp
   have hpl : e.pos.toNat < w.net.length := by omega
   have hx := h8 _ (r8 .msg hpl)
   split
   ·unfold Q8
    simp only
    have hc := @c6y w e.pos.toNat h
    split
    ·unfold a2l
     simp only
     obtain ⟨c1, c2, c3, c4, c5, c6, c7, c8, c9⟩ := n7.1 hc
     obtain ⟨g1, g2, g3⟩ := a9A c3 (by simpa [wCut] using hx.1)
     refine ⟨n7.2 ⟨c1, c2, g1, c4, ?_, c6, c7, c8, ?_⟩, rfl, rfl⟩
     ·simp only
      split
      ·rename_i hh
       simp only [List.length_append, List.length_singleton]
       omega
      ·exact c5
     ·intro n hn
      simp only at hn
      split at hn
      ·rename_i hh
       rcases List.mem_append.1 hn with hn | hn
       ·exact c9 n hn
       ·simp only [List.mem_singleton] at hn
        subst hn
        exact (g3 hh.1).2.2.2.2
      ·exact c9 n hn
    ·rename_i hd
     obtain ⟨g1, g2⟩ := c7T hc (by simpa [wCut] using hx.1) (by simpa [wCut] using hx.2) hd
     exact ⟨g1, by rw [g2]; rfl, rfl⟩
   split
   ·exact ⟨c6y h, rfl, rfl⟩
   ·exact ⟨a4S h fun x hx' => by
     simp only [List.mem_singleton] at hx'
     subst hx'
     exact hx, by simp [u4], rfl⟩
  ·exact ⟨h, rfl, rfl⟩
 split
 ·split
  ·rename_i hp
   have hpl : e.pos.toNat < w.servers.length := by omega
   have hz : ∀ b : Bool, y3 w.map ⟨b, [], []⟩ = true := fun b => A6.2 ⟨a2b.2 ⟨(F3 h1).2.2.1, by simp, by simp, by simp⟩, a1g.2 (.inr ⟨rfl, rfl⟩), by simp, by simp⟩
   have life : ∀ b : Bool, p9 ⟨w.map, w.servers.set e.pos.toNat ⟨b, [], []⟩, w.stores, w.table, w.rows, w.net, w.notes⟩ = true := fun b => n7.2 ⟨by simpa using h1, h2, h3, h4, h5, h6, fun s hs => by
    rcases List.mem_or_eq_of_mem_set hs with hs | rfl
    ·exact h7 s hs
    ·exact ⟨hz b, by simp⟩, by simpa using h8, h9⟩
   split
   ·have ht := @c7a w.map (nth .srv w.servers e.pos.toNat) w.table w.servers.length e.dest (h7 _ (r8 .srv hpl)).1 h1
    exact ⟨a4S h fun x hx => ⟨(ht x hx).1, plain _ (by have := (ht x hx).2; omega)⟩, by simp [u4], rfl⟩
   split
   ·exact ⟨life false, by simp, rfl⟩
   split
   ·exact ⟨life true, by simp, rfl⟩
   ·exact ⟨h, rfl, rfl⟩
  ·exact ⟨h, rfl, rfl⟩
 ·exact ⟨h, rfl, rfl⟩
end Go.Mo
namespace Go.Sx
inductive ImpB (P Q : Prop) : Prop where
 | mk (h : P → Q) : ImpB P Q
theorem ImpB.out {P Q : Prop} (h : ImpB P Q) : P → Q := let ⟨h⟩ := h; h
inductive MeasB (a b : Th Nat) : Prop where
 | mk (h : a () < b ()) : MeasB a b
theorem MeasB.out {a b : Th Nat} (h : MeasB a b) : a () < b () := let ⟨h⟩ := h; h
theorem LoopIn.wb {A : Ann} {σ0 σ : St} (i : A.ι) (hc : A.cond σ0 i ()) (hm : m6 σ (A.st σ0 i)) : LoopIn A σ0 σ := ⟨i, hc, hm⟩
theorem LoopBack.wb {A : Ann} {σ0 σ : St} {i : A.ι} (i' : A.ι) (hc : A.cond σ0 i' ()) (hd : MeasB (A.meas σ0 i') (A.meas σ0 i)) (hm : m6 σ (A.st σ0 i')) : LoopBack A σ0 i σ := ⟨i', hc, hd.out, hm⟩
def thinC (c : C) : C := match c with
 | .att (.list _ _) => .unk
 | .att a => .att a
 | .ptr k v j => .ptr k v j
 | _ => .unk
def thinCh (c : Ch) : Ch := match c with
 | .var bx cs => .var bx (cs.map thinC)
 | c => c
def b6D : Hp → Hp
 | .leaf => .leaf
 | .node e l r => .node (e.1, thinCh e.2) (b6D l) (b6D r)
def thinV (v : V) : V := match v with
 | .one (.ptr k v j) => .one (.ptr k v j)
 | _ => .one .unk
def b2j : Tr V → Tr V
 | .leaf => .leaf
 | .node v l r => .node (thinV v) (b2j l) (b2j r)
def St.thin (σ : St) (kv : Nat) : St := ⟨σ.tm, (b6D σ.hp).set kv (σ.hp.get kv), σ.up.map b2j⟩
def St.only (σ : St) (ds : List Nat) : St := ⟨ds.foldr (fun d t => t.set d (σ.tm.get d)) .leaf, σ.hp, σ.up⟩
def St.pk (σ : St) (d : Nat) : Nat := match σ.tm.get d with
 | .one (.ptr k _ _) => k
 | _ => 0
def ownK (c : C) : Nat := match c with
 | .own k _ => k
 | _ => 0
def St.okC (σ : St) (k j : Nat) : Nat := match (σ.hp.get k).2 with
 | .var _ cs => ownK ((cs[j]?).getD .unk)
 | _ => 0
def St.okT (σ : St) (d : Nat) : Nat := match σ.tm.get d with
 | .one c => ownK c
 | _ => 0
def b2Z : Th (List Msg) := fun _ => []
def b8m (t : RT) (l : Th (List t.ty)) : Th (List Msg) := match t, l with
 | .msg, l => l
 | _, _ => b2Z
def chMsgs (c : Ch) : Th (List Msg) := match c with
 | .row _ _ t l => b8m t l
 | .ro t l => b8m t l
 | _ => b2Z
def St.rowM (σ : St) (k : Nat) : Th (List Msg) := chMsgs (σ.hp.get k).2
def atMsgs (σ : St) (c : C) : Th (List Msg) := match c with
 | .att (.list t l) => b8m t l
 | .own k _ => σ.rowM k
 | _ => b2Z
def St.tmM (σ : St) (d : Nat) : Th (List Msg) := match σ.tm.get d with
 | .one c => atMsgs σ c
 | _ => b2Z
def Y2 : Th Int := fun _ => 0
def St.tmI (σ : St) (d : Nat) : Th Int := match σ.tm.get d with
 | .one (.att (.int _ n)) => n
 | _ => Y2
end Go.Sx
namespace Go.Mo
open Go.Sx
def X5 (l : List Msg) (i : Nat) (k : Nat) : List Msg := (l.take k).eraseIdx i
theorem b8h (l : List Msg) (i : Nat) : X5 l i 0 = [] := by simp [X5]
theorem b1M (l : List Msg) (i : Nat) : X5 l i l.length = l.eraseIdx i := by simp [X5]
theorem c2S (l : List Msg) (i k : Nat) : (X5 l i k).length ≤ k := by
 unfold X5
 have := List.length_eraseIdx_le (l.take k) i
 have h2 := List.length_take_le k l
 omega
theorem c6z {l : List Msg} {i k : Nat} (h : k < l.length) (hne : ¬ k = i) : X5 l i (k + 1) = X5 l i k ++ [nth .msg l k] := by
 unfold X5
 have h1 : l.take (k + 1) = l.take k ++ [nth .msg l k] := H3 .msg h
 rw [h1]
 have h2 : (l.take k).length = k := by simp; omega
 by_cases h3 : i < k
 ·rw [List.eraseIdx_append_of_lt_length (by omega)]
 ·rw [List.eraseIdx_append_of_length_le (by omega), List.eraseIdx_of_length_le (by simp; omega), List.eraseIdx_of_length_le (by omega)]
theorem c2R {l : List Msg} {i k : Nat} (h : k < l.length) (hne : k = i) : X5 l i (k + 1) = X5 l i k := by
 unfold X5
 subst hne
 have h1 : l.take (k + 1) = l.take k ++ [nth .msg l k] := H3 .msg h
 have h2 : (l.take k).length = k := by simp; omega
 rw [h1, List.eraseIdx_append_of_length_le (by omega), List.eraseIdx_of_length_le (l := l.take k) (by omega), h2, Nat.sub_self]
 simp
end Go.Mo
namespace Go.Sx
theorem LoopIn.wf {A : Ann} {σ0 σ : St} (f : St → A.ι) (hc : A.cond σ0 (f σ) ()) (hm : m6 σ (A.st σ0 (f σ))) : LoopIn A σ0 σ := ⟨f σ, hc, hm⟩
theorem LoopBack.wf {A : Ann} {σ0 σ : St} {i : A.ι} (f : St → A.ι) (hc : A.cond σ0 (f σ) ()) (hd : MeasB (A.meas σ0 (f σ)) (A.meas σ0 i)) (hm : m6 σ (A.st σ0 (f σ))) : LoopBack A σ0 i σ := ⟨f σ, hc, hd.out, hm⟩
def asI (c : C) : Th Int := match c with
 | .att (.int _ n) => n
 | _ => Y2
def A4 : Th Bool := fun _ => false
def asB (c : C) : Th Bool := match c with
 | .att (.bool b) => fun _ => b.val
 | _ => A4
def a4q (t : RT) : Th (List t.ty) := fun _ => []
def asL (t : RT) (c : C) : Th (List t.ty) := match c with
 | .att (.list t' l) => if h : t' = t then O3 h l else a4q t
 | _ => a4q t
def St.ce (σ : St) (k j : Nat) : C := match (σ.hp.get k).2 with
 | .var _ cs => (cs[j]?).getD .unk
 | _ => .unk
def chL (t : RT) (c : Ch) : Th (List t.ty) := match c with
 | .row _ _ t' l => if h : t' = t then O3 h l else a4q t
 | .ro t' l => if h : t' = t then O3 h l else a4q t
 | _ => a4q t
def St.rowL (t : RT) (σ : St) (k : Nat) : Th (List t.ty) := chL t (σ.hp.get k).2
def mkRow (a b : Th Int) (c : Th Bool) (d e f g h i j : Th Int) : Th Row := fun _ => ⟨a (), b (), c (), ⟨d (), e (), f (), g (), h ()⟩, i (), j ()⟩
def rdRow (σ : St) (k : Nat) : Th Row := mkRow (asI (σ.ce k 0)) (asI (σ.ce k 1)) (asB (σ.ce k 2)) (asI (σ.ce k 3)) (asI (σ.ce k 4)) (asI (σ.ce k 5)) (asI (σ.ce k 6)) (asI (σ.ce k 7)) (asI (σ.ce k 8)) (asI (σ.ce k 9))
def c5d (a b : Th Int) (c : Th (List Srv)) (d : Th (List Sto)) (e f : Th (List Int)) (g : Th (List Row)) (h : Th (List Msg)) (i : Th (List Note)) : Th Wld := fun _ => ⟨⟨a (), b ()⟩, c (), d (), ⟨e (), f ()⟩, g (), h (), i ()⟩
def a5b (σ : St) (k : Nat) : Th Wld := c5d (asI (σ.ce k 0)) (asI (σ.ce k 1)) (asL .srv (σ.ce k 2)) (asL .sto (σ.ce k 3)) (asL .int (σ.ce k 4)) (asL .int (σ.ce k 5)) (asL .row (σ.ce k 6)) (asL .msg (σ.ce k 7)) (asL .note (σ.ce k 8))
def St.b0d (σ : St) (k : Nat) : Nat → List A → St
 | _, [] => σ
 | j, a :: r => (σ.E7 k j (.att a)).b0d k (j + 1) r
end Go.Sx
namespace Go.Mo
open Go.Sx
def a6d (m : PMap) (cell : Int) (w : Wlk) : Bool := decide (l6 m w.pos = cell)
def J2 (m : PMap) (cell : Int) (l : List Wlk) (k : Nat) : List Wlk := (l.take k).filter (a6d m cell)
theorem b5E (m : PMap) (cell : Int) (l : List Wlk) : J2 m cell l 0 = [] := by simp [J2]
theorem b7J (m : PMap) (cell : Int) (l : List Wlk) (k : Nat) : (J2 m cell l k).length ≤ k ∧ (J2 m cell l k).length ≤ l.length := by
 unfold J2
 have h1 := List.length_filter_le (a6d m cell) (l.take k)
 have h2 := List.length_take_le k l
 have h3 := List.length_take_le' k l
 omega
theorem b7I {m : PMap} {cell : Int} {l : List Wlk} {k : Nat} (h : k < l.length) (hc : l6 m (nth .wlk l k).pos = cell) : J2 m cell l (k + 1) = J2 m cell l k ++ [nth .wlk l k] := by
 unfold J2
 have h1 : l.take (k + 1) = l.take k ++ [nth .wlk l k] := H3 .wlk h
 rw [h1, List.filter_append]
 simp [a6d, hc]
theorem c2o {m : PMap} {cell : Int} {l : List Wlk} {k : Nat} (h : k < l.length) (hc : ¬ l6 m (nth .wlk l k).pos = cell) : J2 m cell l (k + 1) = J2 m cell l k := by
 unfold J2
 have h1 : l.take (k + 1) = l.take k ++ [nth .wlk l k] := H3 .wlk h
 rw [h1, List.filter_append]
 simp [a6d, hc]
def V7 (m : PMap) (cell : Int) (l : List Wlk) : Cll := if n8 m = true ∧ 0 ≤ cell ∧ cell < m.cells ∧ y7 m l = true then ⟨cell, J2 m cell l l.length, 0, [[], []], [0, 0], [0, 0]⟩ else O7
def K3 (m : PMap) (cell : Int) (l : List Wlk) : Sto := ⟨0, V7 m cell l, []⟩
def a2h (m : PMap) : Arb := if n8 m = true then ⟨List.replicate m.cells.toNat (-1), List.replicate m.cells.toNat 0⟩ else ⟨[], []⟩
def Y0 (m : PMap) (w : Wlk) : Row := ⟨w.id, l6 m w.pos, false, ⟨0, 0, 0, 0, 0⟩, w.seq, w.last⟩
def a6Y (m : PMap) (l : List Wlk) : List Row := if n8 m = true ∧ y7 m l = true then l.map (Y0 m) else []
def M5 (m : PMap) (l : List Wlk) (servers : Int) : Wld := ⟨m, List.replicate servers.toNat ⟨true, [], []⟩, (List.range m.cells.toNat).map fun (i : Nat) => K3 m (i : Int) l, a2h m, a6Y m l, [], []⟩
def a4c (m : PMap) (l : List Wlk) (servers : Int) : Wld := if n8 m = true ∧ y7 m l = true ∧ 1 ≤ servers ∧ servers ≤ 3 then M5 m l servers else a0t
theorem b2r (l : List Wlk) : srt l ↔ l.Pairwise fun a b => a.id < b.id := by
 rw [List.pairwise_iff_getElem]
 constructor
 ·intro h i j hi hj hij
  have := h i j hij hj
  rwa [k9 .wlk l i hi, k9 .wlk l j hj] at this
 ·intro h i j hij hj
  have hi : i < l.length := by omega
  have := h i j hi hj hij
  rwa [k9 .wlk l i hi, k9 .wlk l j hj]
theorem b8u {m : PMap} {l : List Wlk} (h : y7 m l = true) : l.length ≤ 9 := b8G (a8x h) fun i hi => by
 have := I8.1 (a6m h hi)
 exact ⟨this.1, this.2.1⟩
theorem b1S {m : PMap} {cell : Int} {l : List Wlk} (h1 : n8 m = true) (h2 : 0 ≤ cell) (h3 : cell < m.cells) (h4 : y7 m l = true) : q9 m (V7 m cell l) = true := by
 rw [V7, if_pos ⟨h1, h2, h3, h4⟩, C4]
 have hw := a0d.1 h4
 refine ⟨fun w hm => ?_, ?_, h1, h2, h3, Int.le_refl 0, by show (0 : Int) ≤ 900; decide, rfl, rfl, rfl, fun s hs => ?_⟩
 ·simp only [J2, List.take_length, List.mem_filter, a6d, decide_eq_true_eq] at hm
  exact ⟨hw.1 w hm.1, hm.2⟩
 ·simp only [J2, List.take_length]
  rw [b2r]
  exact ((b2r l).1 hw.2).filter _
 ·have hs2 : s = 0 ∨ s = 1 := by omega
  rcases hs2 with rfl | rfl <;> exact ⟨by simp [s4, nth, l8, h1], by show (0 : Int) ≤ 0; decide, by show (0 : Int) ≤ 5000; decide, fun _ => ⟨rfl, rfl⟩, fun p hp => by simp [nth] at hp⟩
theorem c0Z {m : PMap} {cell : Int} {l : List Wlk} (h1 : n8 m = true) (h2 : 0 ≤ cell) (h3 : cell < m.cells) (h4 : y7 m l = true) : x8 m (K3 m cell l) = true := by
 rw [u0]
 exact ⟨by simp [K3], b1S h1 h2 h3 h4, by simp [K3], by simp [K3, T6]⟩
theorem c2u {m : PMap} {l : List Wlk} (h1 : n8 m = true) (h4 : y7 m l = true) : y6 m (a6Y m l) = true := by
 rw [a6Y, if_pos ⟨h1, h4⟩, y6, Bool.and_eq_true]
 refine ⟨h1, ?_⟩
 rw [j9]
 intro i hi
 have hi : i < l.length := by simpa using hi
 have hw := a0d.1 h4
 have hn : ∀ j, j < l.length → nth .row (l.map (Y0 m)) j = Y0 m (nth .wlk l j) := fun j hj => by
  rw [k9 .row _ j (by simpa using hj), k9 .wlk l j hj]
  simp
 have ho := I8.1 (hw.1 _ (r8 .wlk hi))
 have hr : R7 m (Y0 m (nth .wlk l i)) = true := by
  obtain ⟨q1, q2, q3, q4⟩ := K5 ho.2.2.1
  have q5 := r6.1 q1
  have hp : 0 ≤ l6 m (nth .wlk l i).pos ∧ l6 m (nth .wlk l i).pos < m.cells := by
   rw [q4]
   exact ⟨Int.ediv_nonneg q2 (by omega), Int.ediv_lt_of_lt_mul (by omega) q3⟩
  simp only [R7, Y0, decide_eq_true_eq]
  exact ⟨ho.1, ho.2.1, hp.1, hp.2, ho.2.2.2.2.2.1, ho.2.2.2.2.2.2.1, ho.2.2.2.2.2.2.2.1, ho.2.2.2.2.2.2.2.2, fun _ => by decide, fun h => by cases h⟩
 rw [H7, hn i hi, hr, Bool.true_and]
 by_cases h0 : i = 0
 ·simp [h0]
 ·have hs := hw.2 (i - 1) i (by omega) hi
  rw [hn (i - 1) (by omega)]
  simp only [Y0]
  simp [hs]
theorem c3f {m : PMap} {v : Int} (h1 : n8 m = true) (h2 : 1 ≤ v) (h3 : v ≤ 3) : z5 m (a2h m) v = true := by
 have hm := r6.1 h1
 rw [a2h, if_pos h1, z5, Bool.and_eq_true]
 refine ⟨by simp [U2, h1, h2, h3]; omega, ?_⟩
 rw [j9]
 intro i hi
 have hi : i < m.cells.toNat := by simp only [List.length_replicate] at hi; exact hi
 have e1 : nth .int (List.replicate m.cells.toNat (-1 : Int)) i = (-1 : Int) := by rw [k9 .int _ i (by simpa using hi)]; simp
 have e2 : nth .int (List.replicate m.cells.toNat (0 : Int)) i = (0 : Int) := by rw [k9 .int _ i (by simpa using hi)]; simp
 simp only [a2p, e1, e2, decide_eq_true_eq]
 show (-1 : Int) ≤ -1 ∧ (-1 : Int) ≤ v - 1 ∧ (0 : Int) ≤ 0 ∧ (0 : Int) ≤ 900 ∧ True
 exact ⟨by omega, by omega, by omega, by omega, trivial⟩
theorem c1e {m : PMap} (h1 : n8 m = true) : y3 m ⟨true, [], []⟩ = true := by
 simp [y3, Q3, A9, a3M, l8, h1]
theorem c0P {m : PMap} {l : List Wlk} {v : Int} (h1 : n8 m = true) (h4 : y7 m l = true) (h2 : 1 ≤ v) (h3 : v ≤ 3) : p9 (a4c m l v) = true := by
 rw [a4c, if_pos ⟨h1, h4, h2, h3⟩, n7]
 have hv : ((List.replicate v.toNat (⟨true, [], []⟩ : Srv)).length : Int) = v := by simp; omega
 have hm := r6.1 h1
 have hst : ∀ i, i < m.cells.toNat → nth .sto ((List.range m.cells.toNat).map fun (i : Nat) => K3 m (i : Int) l) i = K3 m (i : Int) l := fun i hi => by
  rw [k9 .sto _ i (by simpa using hi)]; simp
 have hbase : ∀ i : Nat, i < m.cells.toNat → (K3 m (i : Int) l).base.cell = (i : Int) := fun i hi => by
  simp only [K3]
  rw [V7, if_pos ⟨h1, by omega, by omega, h4⟩]
 simp only [M5]
 rw [hv]
 refine ⟨c3f h1 h2 h3, ?_, c2u h1 h4, by simp, by simp, ?_, ?_, ?_, ?_⟩
 ·rw [x7, Bool.and_eq_true]
  refine ⟨by simp [h1]; omega, ?_⟩
  rw [j9]
  intro i hi
  have hi : i < m.cells.toNat := by simpa using hi
  rw [a1d, hst i hi, c0Z h1 (by omega) (by omega) h4, hbase i hi]
  simp
 ·intro i hi
  have hi : i < m.cells.toNat := by simpa using hi
  rw [hst i hi]
  simp only [K3]
  rw [a2h, if_pos h1]
  have e2 : nth .int (List.replicate m.cells.toNat (0 : Int)) i = (0 : Int) := by rw [k9 .int _ i (by simpa using hi)]; simp
  simp only [e2]
  exact Int.le_refl 0
 ·intro s hs
  rw [List.mem_replicate] at hs
  rw [hs.2]
  exact ⟨c1e h1, fun h hh => by cases hh⟩
 ·intro x hx; cases hx
 ·intro n hn; cases hn
theorem tm {a n : Int} (ha : 0 ≤ a) (hn : 1 ≤ n) : 0 ≤ a.tmod n ∧ a.tmod n < n := by
 rw [Int.tmod_eq_emod_of_nonneg ha]
 exact ⟨Int.emod_nonneg _ (by omega), Int.emod_lt_of_pos _ (by omega)⟩
theorem td {a n : Int} (ha : 0 ≤ a) (hn : 1 ≤ n) : 0 ≤ a.tdiv n ∧ a.tdiv n ≤ a := by
 rw [Int.tdiv_eq_ediv_of_nonneg ha]
 exact ⟨Int.ediv_nonneg ha (by omega), Int.ediv_le_self n ha⟩
theorem xorw {a b : Int} (ha : 0 ≤ a) (ha2 : a < 9223372036854775808) (hb : 0 ≤ b) (hb2 : b < 9223372036854775808) : 0 ≤ IntKind.i64.wrap (((BitVec.ofInt IntKind.i64.bits a ^^^ BitVec.ofInt IntKind.i64.bits b).toNat : Nat) : Int) := by
 have h1 : ∀ x : Int, 0 ≤ x → x < 9223372036854775808 → (BitVec.ofInt IntKind.i64.bits x).toNat < 2 ^ 63 := fun x h0 h2 => by
  rw [BitVec.toNat_ofInt]
  have : IntKind.i64.bits = 64 := rfl
  rw [this]
  omega
 have h2 : (BitVec.ofInt IntKind.i64.bits a ^^^ BitVec.ofInt IntKind.i64.bits b).toNat < 2 ^ 63 := by
  rw [BitVec.toNat_xor]
  exact Nat.xor_lt_two_pow (h1 a ha ha2) (h1 b hb hb2)
 rw [e8 (by omega) (by omega)]
 omega
theorem okByte {l : List Int} (h : OkA (.list .byte fun _ => l)) : ∀ i, i < l.length → @LE.le Int _ 0 (nth .byte l i) ∧ @LE.le Int _ (nth .byte l i) 255 := by
 cases h with
 | list _ _ _ g =>
  intro i hi
  have := g i 0 _ hi rfl
  cases this with
  | int _ _ h1 h2 => exact ⟨h1, h2⟩
theorem c3X {L p b1 b2 n : Int} (hL : 1 ≤ L) (hp0 : 0 ≤ p) (hp : p ≤ 1000000001000) (h1 : 0 ≤ b1 ∧ b1 ≤ 255) (h2 : 0 ≤ b2 ∧ b2 ≤ 255) (hn : 1 ≤ n) (x : Int)
  (hx : x = IntKind.i64.wrap (IntKind.i64.wrap (IntKind.i64.wrap (IntKind.i64.wrap (b1 * 131) + IntKind.i64.wrap (b2 * 1117)) + IntKind.i64.wrap (p * 29)) + IntKind.i64.wrap (IntKind.i64.wrap (p.tdiv L) * 53))) :
  0 ≤ (IntKind.i64.wrap (((BitVec.ofInt IntKind.i64.bits x ^^^ BitVec.ofInt IntKind.i64.bits (IntKind.i64.wrap (x.tdiv 64))).toNat : Nat) : Int)).tmod n ∧ (IntKind.i64.wrap (((BitVec.ofInt IntKind.i64.bits x ^^^ BitVec.ofInt IntKind.i64.bits (IntKind.i64.wrap (x.tdiv 64))).toNat : Nat) : Int)).tmod n < n := by
 have hd := td hp0 hL
 generalize hdd : p.tdiv L = d at *
 rw [e8 (n := b1 * 131) (by omega) (by omega), e8 (n := b2 * 1117) (by omega) (by omega), e8 (n := b1 * 131 + b2 * 1117) (by omega) (by omega), e8 (n := p * 29) (by omega) (by omega), e8 (n := d) (by omega) (by omega), e8 (n := d * 53) (by omega) (by omega),
  e8 (n := b1 * 131 + b2 * 1117 + p * 29) (by omega) (by omega), e8 (n := b1 * 131 + b2 * 1117 + p * 29 + d * 53) (by omega) (by omega)] at hx
 have hx0 : 0 ≤ x := by omega
 have hx1 : x < 9223372036854775808 := by omega
 have hd2 := td hx0 (show (1 : Int) ≤ 64 by omega)
 rw [e8 (n := x.tdiv 64) (by omega) (by omega)]
 exact tm (xorw hx0 hx1 hd2.1 (by omega)) hn
def tkP (m : PMap) (t : Arb) (h : Hld) (cell side : Int) (k : Nat) : List Msg := ((nth .pcls h.state.outs side.toNat).take k).map fun p => ⟨5, n4 t (b6 m cell side), b6 m cell side, 1 - side, 0, s5, p, E8⟩
def tkG (m : PMap) (t : Arb) (h : Hld) (cell side : Int) (k : Nat) : List Msg := ((n0 m h side).take k).map fun g => ⟨7, n4 t (b6 m cell side), b6 m cell side, 1 - side, 0, s5, u5, g⟩
def tkTo (m : PMap) (t : Arb) (h : Hld) (cell : Int) : Nat → List Msg
 | 0 => []
 | n + 1 => tkTo m t h cell n ++ z6 m t h cell n
theorem c0R (m : PMap) (t : Arb) (h : Hld) (cell : Int) : tkTo m t h cell 0 = [] := rfl
theorem c0S {m : PMap} {t : Arb} {h : Hld} {cell : Int} {n : Nat} (hs : b6 m cell n = -1 ∨ n4 t (b6 m cell n) = -1) : tkTo m t h cell (n + 1) = tkTo m t h cell n := by
 show tkTo m t h cell n ++ z6 m t h cell n = _
 have : z6 m t h cell n = [] := by
  unfold z6
  simp only
  rw [if_pos hs]
 rw [this, List.append_nil]
theorem c3p {m : PMap} {t : Arb} {h : Hld} {cell : Int} {n : Nat} (h1 : ¬ b6 m cell n = -1) (h2 : ¬ n4 t (b6 m cell n) = -1) : tkTo m t h cell (n + 1) = tkTo m t h cell n ++ tkP m t h cell n 4 ++ tkG m t h cell n 4 := by
 show tkTo m t h cell n ++ z6 m t h cell n = _
 have : z6 m t h cell n = tkP m t h cell n 4 ++ tkG m t h cell n 4 := by
  unfold z6 tkP tkG
  simp only
  rw [if_neg (fun hh => hh.elim h1 h2)]
 rw [this, List.append_assoc]
theorem b3P {m : PMap} {s : Srv} {t : Arb} {cell : Int} (hh : v5 s cell = true) : tkTo m t (b9 s cell) cell 2 = A8 m s t cell := by
 unfold A8
 rw [if_pos hh]
 rfl
theorem c3q (m : PMap) (t : Arb) (h : Hld) (cell side : Int) : tkP m t h cell side 0 = [] := by simp [tkP]
theorem c3r (m : PMap) (t : Arb) (h : Hld) (cell side : Int) : tkG m t h cell side 0 = [] := by simp [tkG]
theorem b3Q {m : PMap} {t : Arb} {h : Hld} {cell side : Int} {k : Nat} (hk : k < (nth .pcls h.state.outs side.toNat).length) : tkP m t h cell side (k + 1) = tkP m t h cell side k ++ [⟨5, n4 t (b6 m cell side), b6 m cell side, 1 - side, 0, s5, nth .pcl (nth .pcls h.state.outs side.toNat) k, E8⟩] := by
 unfold tkP
 exact W0 (t := .pcl) _ _ hk
theorem b3R {m : PMap} {t : Arb} {h : Hld} {cell side : Int} {k : Nat} (hk : k < (n0 m h side).length) : tkG m t h cell side (k + 1) = tkG m t h cell side k ++ [⟨7, n4 t (b6 m cell side), b6 m cell side, 1 - side, 0, s5, u5, nth .gst (n0 m h side) k⟩] := by
 unfold tkG
 exact W0 (t := .gst) _ _ hk
theorem c6W {m : PMap} {t : Arb} {h : Hld} {cell side : Int} {k : Nat} (h4 : k ≤ 4) (he : min 4 (nth .pcls h.state.outs side.toNat).length ≤ k) : tkP m t h cell side k = tkP m t h cell side 4 := by
 unfold tkP
 by_cases h5 : k = 4
 ·rw [h5]
 ·rw [List.take_of_length_le (by omega), List.take_of_length_le (by omega)]
theorem c6Z {m : PMap} {t : Arb} {h : Hld} {cell side : Int} {k : Nat} (h4 : k ≤ 4) (he : min 4 (n0 m h side).length ≤ k) : tkG m t h cell side k = tkG m t h cell side 4 := by
 unfold tkG
 by_cases h5 : k = 4
 ·rw [h5]
 ·rw [List.take_of_length_le (by omega), List.take_of_length_le (by omega)]
theorem c6V (m : PMap) (t : Arb) (h : Hld) (cell side : Int) (k : Nat) : (tkP m t h cell side k).length ≤ k := by simp [tkP]; omega
theorem c6Y (m : PMap) (t : Arb) (h : Hld) (cell side : Int) (k : Nat) : (tkG m t h cell side k).length ≤ k := by simp [tkG]; omega
theorem a8r (m : PMap) (t : Arb) (h : Hld) (cell : Int) : ∀ n, (tkTo m t h cell n).length ≤ 8 * n
 | 0 => by simp [tkTo]
 | n + 1 => by
  have ih := a8r m t h cell n
  show (tkTo m t h cell n ++ z6 m t h cell n).length ≤ _
  have : (z6 m t h cell n).length ≤ 8 := by
   unfold z6
   simp only
   split
   ·simp
   ·simp
    omega
  rw [List.length_append]
  omega
structure Said (m : PMap) (s : Srv) (t : Arb) (v cell : Int) (z : Msg) : Prop where
 ok : s9 m v z = true
 side : z.side = 0 ∨ z.side = 1
 at1 : z.cell = b6 m cell (1 - z.side)
 lo : 0 ≤ z.cell
 hi : z.cell < (t.servers.length : Int)
 dest : z.dest = nth .int t.servers z.cell.toNat
 kind : z.kind = 5 ∨ z.kind = 7
 num : z.kind = 5 → 0 ≤ z.pcl.n - (nth .int (b9 s cell).state.next (1 - z.side).toNat - (nth .pcls (b9 s cell).state.outs (1 - z.side).toNat).length) ∧ z.pcl.n - (nth .int (b9 s cell).state.next (1 - z.side).toNat - (nth .pcls (b9 s cell).state.outs (1 - z.side).toNat).length) < (nth .pcls (b9 s cell).state.outs (1 - z.side).toNat).length
 pcl : z.kind = 5 → nth .pcl (nth .pcls (b9 s cell).state.outs (1 - z.side).toNat) (z.pcl.n - (nth .int (b9 s cell).state.next (1 - z.side).toNat - (nth .pcls (b9 s cell).state.outs (1 - z.side).toNat).length)).toNat = z.pcl
 gst : z.kind = 7 → z.gst.count = (b9 s cell).count ∧ z.gst.src = cell
 bnd : 0 ≤ nth .int (b9 s cell).state.next (1 - z.side).toNat ∧ nth .int (b9 s cell).state.next (1 - z.side).toNat ≤ 5000 ∧ ((nth .pcls (b9 s cell).state.outs (1 - z.side).toNat).length : Int) ≤ nth .int (b9 s cell).state.next (1 - z.side).toNat ∧ (b9 s cell).state.outs.length = 2 ∧ (b9 s cell).state.next.length = 2
theorem c3t {m : PMap} {s : Srv} {t : Arb} {cell : Int} : (A8 m s t cell).length ≤ 16 := by
 unfold A8
 split
 ·rename_i hh
  have := a8r m t (b9 s cell) cell 2
  rw [b3P hh] at this
  unfold A8 at this
  rw [if_pos hh] at this
  omega
 ·simp
end Go.Mo
