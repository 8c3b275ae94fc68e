/-
  Plain models: is a world ok.
-/
import Derived.Test.YtkclfaldmghkeaaGreatM2
import Derived.Test.YtkclfaldmghkeaaGreatS4e
import Derived.Test.YtkclfaldmghkeaaGreatM1
set_option linter.unusedVariables false
set_option linter.unusedSimpArgs false
namespace Go.Sx
end Go.Sx
namespace Go.Mo
open Go.Sx
def a9L (w : Wld) : Bool := decide (w.net.length ≤ 40) && m4 w.net.length (a6c w)
def a3r (l : List Note) (i : Nat) : Bool := a3q (nth .note l i)
def a6b (l : List Note) : Bool := decide (l.length ≤ 150) && m4 l.length (a3r l)
def a6W (w : Wld) : Bool := m4 w.servers.length (a2J w)
theorem a1Y {f : Nat → Bool} {k n : Nat} (h : m4 k f = true) (hk : k = n) : m4 n f = true := by subst hk; exact h
theorem b1x {w : Wld} {k : Nat} (h : k < w.servers.length) (hw : y9 w.map (nth .srv w.servers k) = false) : m4 w.servers.length (a2J w) = false :=
 s4 h (by simp [a2J, hw])
theorem b1w {w : Wld} {k j : Nat} (h : k < w.servers.length) (hj : j < (nth .srv w.servers k).holds.length) (hw : a3J w.table (nth .srv w.servers k).holds j = false) : m4 w.servers.length (a2J w) = false :=
 s4 h (by rw [a2J, s4 hj hw, Bool.and_false])
theorem b4V {w : Wld} {k j : Nat} (h1 : y9 w.map (nth .srv w.servers k) = true) (h2 : m4 j (a3J w.table (nth .srv w.servers k).holds) = true) (hj : j = (nth .srv w.servers k).holds.length) : a2J w k = true := by
 subst hj
 simp [a2J, h1, h2]
theorem b4L {w : Wld} {k : Nat} (h : k < w.stores.length) (hw : a0K w k = false) : m4 w.stores.length (a0K w) = false := s4 h hw
theorem c0F {w : Wld} {k : Nat} (h : k < w.net.length) (hw : a6c w k = false) : m4 w.net.length (a6c w) = false := s4 h hw
theorem b1X {l : List Note} {k : Nat} (h : k < l.length) (hw : a3r l k = false) : m4 l.length (a3r l) = false := s4 h hw
theorem c3a (w : Wld) : m4 w.notes.length (b8w w) = m4 w.notes.length (a3r w.notes) := rfl
theorem c0O {m : PMap} {s : Srv} {k : Nat} (h : y9 m s = true) (hk : k < s.holds.length) : 0 ≤ (nth .hld s.holds k).state.cell ∧ (nth .hld s.holds k).state.cell < m.cells := by
 have := n0 (y0.1 (a4E h hk)).2.2
 exact ⟨this.2.2.1, this.2.2.2.1⟩
theorem a9M {m : PMap} {v : Int} {x : Msg} (h : u0 m v x = true) : 0 ≤ x.cell ∧ x.cell < m.cells := by
 simp only [u0, decide_eq_true_eq] at h
 exact ⟨h.2.2.2.1, h.2.2.2.2.1⟩
theorem E6 {m : PMap} {t : Arb} {v : Int} (h : A4 m t v = true) : (t.servers.length : Int) = m.cells ∧ (t.ages.length : Int) = m.cells ∧ o8 m = true ∧ 1 ≤ v ∧ v ≤ 3 := by
 unfold A4 at h
 rw [Bool.and_eq_true] at h
 have h1 := h.1
 simp only [V7, decide_eq_true_eq] at h1
 exact ⟨h1.2.2.2.1, h1.2.2.2.2, h1.1, h1.2.1, h1.2.2.1⟩
theorem a1x {m : PMap} {l : List Sto} (h : y1 m l = true) : (l.length : Int) = m.cells ∧ o8 m = true := by
 unfold y1 at h
 rw [Bool.and_eq_true] at h
 have h1 := h.1
 simp only [decide_eq_true_eq] at h1
 exact ⟨h1.2, h1.1⟩
theorem a8X {m : PMap} {l : List Sto} (h : y1 m l = true) : l.length ≤ 4 := by
 obtain ⟨h1, h2⟩ := a1x h
 obtain ⟨_, h3, _⟩ := p5.1 h2
 omega
def a5l (w : Wld) : Bool := A4 w.map w.table w.servers.length && y1 w.map w.stores && z8 w.map w.rows && m4 w.stores.length (a0K w) && a6W w && a9L w && a6b w.notes
theorem b1p (w : Wld) : o6 w = a5l w := by
 simp only [o6, a5l, a6W, a9L, a6b, c3a]
 by_cases h1 : w.net.length ≤ 40 <;> by_cases h2 : w.notes.length ≤ 150 <;> simp [h1, h2]
theorem L6 (t : RT) {l : List t.ty} {x : t.ty} (h : x ∈ l) : ∃ i, i < l.length ∧ nth t l i = x := by
 obtain ⟨i, hi, he⟩ := List.getElem_of_mem h
 exact ⟨i, hi, by rw [k8 t l i hi]; exact he⟩
theorem b6I {m : PMap} {l : List Gst} : B6 m l = true ↔ l.length ≤ 20 ∧ (∀ g ∈ l, S4 m g = true) ∧ GSort l := by
 constructor
 ·intro h
  refine ⟨?_, fun g hg => ?_, b0i h⟩
  ·simp only [B6, Bool.and_eq_true, decide_eq_true_eq] at h; exact h.1
  ·obtain ⟨i, hi, rfl⟩ := L6 .gst hg
   simp only [B6, Bool.and_eq_true] at h
   have := (k9 _ _).1 h.2 i hi
   simp only [a1T, Bool.and_eq_true] at this
   exact this.1
 ·rintro ⟨h1, h2, h3⟩
  simp only [B6, Bool.and_eq_true, decide_eq_true_eq]
  refine ⟨h1, (k9 _ _).2 fun i hi => ?_⟩
  simp only [a1T, Bool.and_eq_true, Bool.or_eq_true, decide_eq_true_eq]
  refine ⟨h2 _ (n6 .gst hi), ?_⟩
  by_cases h0 : i = 0
  ·exact .inl h0
  ·right
   have := List.pairwise_iff_getElem.1 h3 (i - 1) i (by omega) hi (by omega)
   rwa [k8 .gst _ _ hi, k8 .gst _ _ (by omega)]
theorem W8 {m : PMap} {l : List Gst} : R7 m l = true ↔ o8 m = true ∧ l.length ≤ 20 ∧ (∀ g ∈ l, S4 m g = true) ∧ GSort l := by
 rw [R7, Bool.and_eq_true, b6I]
theorem x8 {m : PMap} {s : Srv} : y9 m s = true ↔ R7 m s.m9 = true ∧ a4m s = true ∧ (∀ h ∈ s.holds, O1 m h = true) ∧ HSort s.holds := by
 constructor
 ·intro h
  refine ⟨?_, ?_, fun g hg => ?_, b0b h⟩
  ·simp only [y9, Bool.and_eq_true] at h; exact h.1.1
  ·simp only [y9, Bool.and_eq_true] at h; exact h.1.2
  ·obtain ⟨i, hi, rfl⟩ := L6 .hld hg
   exact a4E h hi
 ·rintro ⟨h1, h2, h3, h4⟩
  simp only [y9, Bool.and_eq_true]
  refine ⟨⟨h1, h2⟩, (k9 _ _).2 fun i hi => ?_⟩
  simp only [a1S, Bool.and_eq_true, Bool.or_eq_true, decide_eq_true_eq]
  refine ⟨h3 _ (n6 .hld hi), ?_⟩
  by_cases h0 : i = 0
  ·exact .inl h0
  ·right
   have := List.pairwise_iff_getElem.1 h4 (i - 1) i (by omega) hi (by omega)
   rwa [k8 .hld _ _ hi, k8 .hld _ _ (by omega)]
theorem z7 {m : PMap} {l : List Sto} : y1 m l = true ↔ o8 m = true ∧ (l.length : Int) = m.cells ∧ ∀ i, i < l.length → y4 m (nth .sto l i) = true ∧ (nth .sto l i).base.cell = (i : Int) := by
 simp only [y1, Bool.and_eq_true, decide_eq_true_eq, and_assoc]
 refine and_congr_right fun _ => and_congr_right fun _ => ?_
 rw [k9]
 simp only [a1y, Bool.and_eq_true, decide_eq_true_eq]
theorem a1B {s : Srv} : a4m s = true ↔ (s.up = true ∨ s.holds = [] ∧ s.m9 = []) := by
 simp [a4m]
theorem Q3 : ∀ {l : List Hld} {h x : Hld}, HSort l → x ∈ putH l h → x = h ∨ x ∈ l ∧ x.state.cell ≠ h.state.cell
 | [], h, x, _, hx => by simp [putH] at hx; exact .inl hx
 | y :: l, h, x, hs, hx => by
  obtain ⟨hy, hl⟩ := List.pairwise_cons.1 hs
  simp only [putH] at hx
  split at hx
  ·rename_i h1
   rcases List.mem_cons.1 hx with rfl | hx
   ·exact .inl rfl
   ·right
    refine ⟨hx, ?_⟩
    rcases List.mem_cons.1 hx with rfl | hx
    ·omega
    ·have := hy x hx; omega
  ·split at hx
   ·rename_i h1 h2
    rcases List.mem_cons.1 hx with rfl | hx
    ·exact .inl rfl
    ·have := hy x hx
     exact .inr ⟨List.mem_cons_of_mem _ hx, by omega⟩
   ·rename_i h1 h2
    rcases List.mem_cons.1 hx with rfl | hx
    ·exact .inr ⟨List.mem_cons_self, by omega⟩
    ·rcases Q3 hl hx with rfl | ⟨h3, h4⟩
     ·exact .inl rfl
     ·exact .inr ⟨List.mem_cons_of_mem _ h3, h4⟩
theorem a7h : ∀ {l : List Hld} {h : Hld}, HSort l → HSort (putH l h)
 | [], h, _ => by simp [putH]
 | y :: l, h, hs => by
  obtain ⟨hy, hl⟩ := List.pairwise_cons.1 hs
  simp only [putH]
  split
  ·rename_i h1
   refine List.pairwise_cons.2 ⟨fun x hx => ?_, hs⟩
   rcases List.mem_cons.1 hx with rfl | hx
   ·exact h1
   ·have := hy x hx; omega
  ·split
   ·rename_i h1 h2
    refine List.pairwise_cons.2 ⟨fun x hx => ?_, hl⟩
    have := hy x hx; omega
   ·rename_i h1 h2
    refine List.pairwise_cons.2 ⟨fun x hx => ?_, a7h hl⟩
    rcases Q3 hl hx with rfl | ⟨h3, _⟩
    ·omega
    ·exact hy x h3
theorem b4o {l : List Hld} {c : Int} {x : Hld} : x ∈ C8 l c ↔ x ∈ l ∧ x.state.cell ≠ c := by simp [C8]
theorem del_sort {l : List Hld} {c : Int} (h : HSort l) : HSort (C8 l c) := List.Pairwise.filter _ h
theorem E1 {s : Srv} {c : Int} (h : v7 s c = true) : e9 s c ∈ s.holds ∧ (e9 s c).state.cell = c := by
 simp only [v7, decide_eq_true_eq] at h
 have hlt := a2w s.holds c
 rw [e9, if_pos h]
 exact ⟨n6 .hld (by omega), a1R h⟩
theorem a5E {room : Bool} : ∀ {l : List Gst} {g x : Gst}, x ∈ putG room l g → x = g ∨ x ∈ l
 | [], g, x, h => by
  simp only [putG] at h
  split at h
  ·exact .inl (by simpa using h)
  ·simp at h
 | y :: l, g, x, h => by
  simp only [putG] at h
  split at h
  ·split at h
   ·rcases List.mem_cons.1 h with rfl | h
    ·exact .inl rfl
    ·exact .inr h
   ·exact .inr h
  ·split at h
   ·rcases List.mem_cons.1 h with rfl | h
    ·unfold a6j
     split
     ·exact .inl rfl
     ·exact .inr List.mem_cons_self
    ·exact .inr (List.mem_cons_of_mem _ h)
   ·rcases List.mem_cons.1 h with rfl | h
    ·exact .inr List.mem_cons_self
    ·rcases a5E h with h | h
     ·exact .inl h
     ·exact .inr (List.mem_cons_of_mem _ h)
theorem c3c (x g : Gst) (he : x.src = g.src ∧ x.wlk.id = g.wlk.id) : (a6j x g).src = g.src ∧ (a6j x g).wlk.id = g.wlk.id := by
 unfold a6j
 split
 ·exact ⟨rfl, rfl⟩
 ·exact he
theorem b1N {room : Bool} : ∀ {l : List Gst} {g : Gst}, GSort l → GSort (putG room l g)
 | [], g, _ => by simp only [putG]; split <;> simp
 | y :: l, g, hs => by
  obtain ⟨hy, hl⟩ := List.pairwise_cons.1 hs
  simp only [putG]
  split
  ·rename_i h1
   split
   ·refine List.pairwise_cons.2 ⟨fun x hx => ?_, hs⟩
    rcases List.mem_cons.1 hx with rfl | hx
    ·exact h1
    ·have := hy x hx
     rw [F9] at *
     omega
   ·exact hs
  ·split
   ·rename_i h1 h2
    refine List.pairwise_cons.2 ⟨fun x hx => ?_, hl⟩
    have := hy x hx
    have hk := c3c y g h2
    rw [F9] at *
    omega
   ·rename_i h1 h2
    refine List.pairwise_cons.2 ⟨fun x hx => ?_, b1N hl⟩
    rcases a5E hx with rfl | h3
    ·rw [F9] at *
     omega
    ·exact hy x h3
theorem b5z {room : Bool} : ∀ (l : List Gst) (g : Gst), (putG room l g).length ≤ l.length + (if room = true then 1 else 0)
 | [], g => by simp only [putG]; split <;> simp
 | y :: l, g => by
  have := b5z (room := room) l g
  simp only [putG]
  split
  ·split <;> simp
  ·split
   ·simp
   ·simp only [List.length_cons]; omega
theorem gstRec_ok {m : PMap} {l : List Gst} {g : Gst} (hl : R7 m l = true) (hg : S4 m g = true) : R7 m (a1t l g) = true := by
 obtain ⟨h1, h2, h3, h4⟩ := W8.1 hl
 rw [a4U h4]
 refine W8.2 ⟨h1, ?_, fun x hx => ?_, b1N h4⟩
 ·have := b5z (room := decide (l.length < 20)) l g
  by_cases h5 : l.length < 20
  ·rw [decide_eq_true h5, if_pos rfl] at this
   rw [decide_eq_true h5]
   omega
  ·rw [decide_eq_false h5] at this ⊢
   simp at this
   omega
 ·rcases a5E hx with rfl | hx
  ·exact hg
  ·exact h3 x hx
theorem a8O {m : PMap} {h : Hld} {s : Sto} {r : Rec} (hn : (s7 m h s r).n = 1) :
  O1 m h = true ∧ y4 m s = true ∧ h.age = s.age ∧ h.count = s.recs.length ∧ h.count < 250 ∧ D4 m r = true ∧ (j9 m (q9 m s) r).ok = true ∧ (j9 m h.state r).ok = true ∧
  (s7 m h s r).h = ⟨h.age, h.count + 1, (j9 m h.state r).c⟩ ∧ (s7 m h s r).s = ⟨s.age, s.base, s.recs ++ [r]⟩ ∧ (s7 m h s r).k = (j9 m h.state r).code := by
 unfold s7 at *
 split at hn
 ·rename_i hc
  rw [if_pos hc]
  split at hn
  ·rename_i h1
   exact absurd hn h1
  split at hn
  ·cases hn
  ·rename_i h1 h2
   rw [if_neg h1, if_neg h2]
   have h1 : (H4 m s h.age h.count r).n = 1 := Classical.not_not.1 h1
   have hl := (s8.1 hc.2).2.2.1
   rcases a1Z m s h.age h.count r with ⟨_, h3⟩ | ⟨h3, h4, h5, h6, h7, h8, h9⟩
   ·omega
   ·exact ⟨hc.1, hc.2, h5, h6, by omega, h8, h9, by simpa using h2, rfl, h3, rfl⟩
 ·cases hn
theorem c1H {m : PMap} {h : Hld} {s : Sto} {r : Rec} (hh : O1 m h = true) (hs : y4 m s = true) : (s7 m h s r).n = 2 ↔ h.age ≠ s.age := by
 constructor
 ·intro hn he
  unfold s7 at hn
  rw [if_pos ⟨hh, hs⟩] at hn
  split at hn
  ·rcases a1Z m s h.age h.count r with ⟨_, h2⟩ | ⟨_, h2, _⟩
   ·have hn : (H4 m s h.age h.count r).n = 2 := hn
    omega
   ·have hn : (H4 m s h.age h.count r).n = 2 := hn
    omega
  split at hn
  ·cases hn
  ·cases hn
 ·intro he
  exact (b2N hh hs he).2.2
theorem a7w (m : PMap) (c : Cll) (i : Nat) (w : Wlk) (o : Ord) : (M7 m c i w o).c.cell = c.cell := by
 unfold M7 X0 X2 X3 X1 P1
 repeat' split
 all_goals rfl
theorem do_cell (m : PMap) (c : Cll) (o : Ord) : (F4 m c o).c.cell = c.cell := by
 unfold F4
 split
 ·rfl
 ·simp only
  split
  ·rfl
  ·split
   ·rfl
   ·exact a7w m c _ _ o
theorem X6 (m : PMap) (c : Cll) (r : Rec) : (j9 m c r).c.cell = c.cell := by
 unfold j9
 split
 ·split
  ·exact do_cell m c r.ord
  ·rfl
 ·split
  ·rfl
  ·split
   ·simp only [s9]
    split
    ·rfl
    ·split
     ·rfl
     ·split <;> rfl
   ·simp only [D6]
    split <;> rfl
theorem a8o (m : PMap) (c : Cll) (l : List Rec) : ∀ k, (r9 m c l k).cell = c.cell
 | 0 => rfl
 | k + 1 => by rw [K8, X6, a8o m c l k]
theorem a0w (m : PMap) (s : Sto) : (q9 m s).cell = s.base.cell := a8o m s.base s.recs _
def n7 (x : Msg) : Rec := if x.kind = 2 then ⟨1, x.ord, 0, u6, 0⟩ else if x.kind = 5 then ⟨2, s6, x.side, x.pcl, 0⟩ else ⟨3, s6, x.side, u6, x.n⟩
def n5 (st : List Sto) (x : Msg) : Sto := nth .sto st x.cell.toNat
inductive Eff (m : PMap) (s : Srv) (st : List Sto) (x : Msg) : Srv → List Sto → Prop
 | same : Eff m s st x s st
 | ghost (hu : s.up = true) (hk : x.kind = 7) : Eff m s st x ⟨s.up, s.holds, a1t s.m9 x.gst⟩ st
 | grant (hu : s.up = true) (hk : x.kind = 1) (hn : v7 s x.cell = true → (e9 s x.cell).age < x.n) (ha : (n5 st x).age ≤ x.n) :
   Eff m s st x ⟨s.up, putH s.holds ⟨x.n, (n5 st x).recs.length, q9 m (n5 st x)⟩, s.m9⟩ (st.set x.cell.toNat ⟨x.n, (n5 st x).base, (n5 st x).recs⟩)
 | lost (hu : s.up = true) (hk : x.kind = 2 ∨ x.kind = 5 ∨ x.kind = 6) (hh : v7 s x.cell = true) (ha : (e9 s x.cell).age ≠ (n5 st x).age) : Eff m s st x ⟨s.up, C8 s.holds x.cell, s.m9⟩ st
 | write (hu : s.up = true) (hk : x.kind = 2 ∨ x.kind = 5 ∨ x.kind = 6) (hh : v7 s x.cell = true) (ha : (e9 s x.cell).age = (n5 st x).age) (hc : (e9 s x.cell).count = (n5 st x).recs.length) (hl : (e9 s x.cell).count < 250)
   (hr : D4 m (n7 x) = true) (h1 : (j9 m (q9 m (n5 st x)) (n7 x)).ok = true) (h2 : (j9 m (e9 s x.cell).state (n7 x)).ok = true)
   (hf : x.kind = 2 → o7 (e9 s x.cell).state.wlks x.ord.who = true ∧ (A3 (e9 s x.cell).state.wlks x.ord.who).seq < x.ord.seq)
   (hp : x.kind = 5 → nth .int (e9 s x.cell).state.ins x.side.toNat ≤ x.pcl.n) :
   Eff m s st x ⟨s.up, putH s.holds ⟨(e9 s x.cell).age, (e9 s x.cell).count + 1, (j9 m (e9 s x.cell).state (n7 x)).c⟩, s.m9⟩ (st.set x.cell.toNat ⟨(n5 st x).age, (n5 st x).base, (n5 st x).recs ++ [n7 x]⟩)
theorem a2g {m : PMap} {st : List Sto} {v : Int} {x : Msg} (h : y1 m st = true) (hx : u0 m v x = true) : 0 ≤ x.cell ∧ x.cell.toNat < st.length ∧ y4 m (n5 st x) = true ∧ (n5 st x).base.cell = x.cell := by
 obtain ⟨h1, h2⟩ := a9M hx
 obtain ⟨h3, h4, h5⟩ := z7.1 h
 have hl : x.cell.toNat < st.length := by omega
 obtain ⟨h6, h7⟩ := h5 _ hl
 exact ⟨h1, hl, h6, by rw [n5, h7]; omega⟩
theorem a1P {m : PMap} {v : Int} {x : Msg} (hx : u0 m v x = true) : (x.kind = 1 ∨ x.kind = 2 ∨ x.kind = 5 ∨ x.kind = 6 ∨ x.kind = 7) ∧ 0 ≤ x.dest ∧ x.dest < v ∨ (x.kind = 3 ∨ x.kind = 4) ∧ x.dest = -1 := by
 simp only [u0, E0, decide_eq_true_eq] at hx
 omega
theorem S9 {m : PMap} {s : Srv} {st : List Sto} {v : Int} {x : Msg} (hs : y9 m s = true) (hst : y1 m st = true) (hx : u0 m v x = true) (hu : s.up = true) (hk : x.kind = 2 ∨ x.kind = 5 ∨ x.kind = 6) (hh : v7 s x.cell = true)
  (hf : x.kind = 2 → o7 (e9 s x.cell).state.wlks x.ord.who = true ∧ (A3 (e9 s x.cell).state.wlks x.ord.who).seq < x.ord.seq)
  (hp : x.kind = 5 → nth .int (e9 s x.cell).state.ins x.side.toNat ≤ x.pcl.n) :
  Eff m s st x (A2 m s st x.cell (n7 x)).srv (A2 m s st x.cell (n7 x)).stores ∧
  ((A2 m s st x.cell (n7 x)).n = 1 → (A2 m s st x.cell (n7 x)).k = (j9 m (e9 s x.cell).state (n7 x)).code ∧ (A2 m s st x.cell (n7 x)).stores = st.set x.cell.toNat ⟨(n5 st x).age, (n5 st x).base, (n5 st x).recs ++ [n7 x]⟩ ∧
   (e9 s x.cell).age = (n5 st x).age ∧ (e9 s x.cell).count = (n5 st x).recs.length ∧ (j9 m (e9 s x.cell).state (n7 x)).ok = true ∧ (j9 m (q9 m (n5 st x)) (n7 x)).ok = true ∧ D4 m (n7 x) = true) := by
 obtain ⟨_, _, hso, _⟩ := a2g hst hx
 obtain ⟨hm, _⟩ := E1 hh
 obtain ⟨_, _, hall, hsort⟩ := x8.1 hs
 have hho := hall _ hm
 unfold A2
 simp only
 rw [a2x hsort]
 split
 ·rename_i hn
  obtain ⟨g1, g2, g3, g4, g5, g6, g7, g8, g9, g10, g11⟩ := a8O hn
  refine ⟨?_, fun _ => ⟨g11, by rw [g10]; rfl, g3, g4, g8, g7, g6⟩⟩
  have := Eff.write hu hk hh g3 g4 g5 g6 g7 g8 hf hp
  rw [g9, g10]
  exact this
 ·split
  ·rename_i hn1 hn
   exact ⟨.lost hu hk hh ((c1H hho hso).1 hn), fun h => by cases h⟩
  ·rename_i hn1 hn2
   exact ⟨.same, fun h => absurd h hn1⟩
theorem a7y {m : PMap} {s : Srv} {st : List Sto} {t : Arb} {v : Int} {x : Msg} (hs : y9 m s = true) (hst : y1 m st = true) (hx : u0 m v x = true) : Eff m s st x (n9 m s st t x).srv (n9 m s st t x).stores := by
 obtain ⟨_, _, _, hsort⟩ := x8.1 hs
 unfold n9
 split
 ·exact .same
 rename_i hu0
 have hu : s.up = true := by
  cases h : s.up with
  | true => rfl
  | false => exact absurd (.inl h) hu0
 have hkk := a1P hx
 have hd : ¬ x.dest = -1 := fun h => hu0 (.inr h)
 split
 ·rename_i hk
  unfold I7
  split
  ·exact .same
  rename_i hn
  split
  ·exact .same
  rename_i ha
  rw [a2x hsort]
  refine .grant hu hk (fun hh => ?_) ?_
  ·exact Int.not_le.1 fun hle => hn ⟨hh, hle⟩
  ·exact Int.not_lt.1 ha
 split
 ·rename_i hk1 hk
  exact .ghost hu hk
 split
 ·exact .same
 rename_i hk1 hk7 hno
 have hh : v7 s x.cell = true := by simpa using hno
 split
 ·rename_i hk
  unfold T5
  simp only
  split
  ·exact .same
  rename_i hw
  split
  ·exact .same
  rename_i hq1
  split
  ·exact .same
  rename_i hq2
  have e : n7 x = ⟨1, x.ord, 0, u6, 0⟩ := by rw [n7, if_pos hk]
  rw [← e]
  exact (S9 hs hst hx hu (.inl hk) hh (fun _ => ⟨by simpa using hw, by omega⟩) (fun h => by omega)).1
 split
 ·rename_i hk2 hk
  unfold T4
  simp only
  split
  ·exact .same
  rename_i hq
  have e : n7 x = ⟨2, s6, x.side, x.pcl, 0⟩ := by rw [n7, if_neg hk2, if_pos hk]
  rw [← e]
  exact (S9 hs hst hx hu (.inr (.inl hk)) hh (fun h => by omega) (fun _ => Int.not_lt.1 hq)).1
 ·rename_i hk2 hk5
  have e : n7 x = ⟨3, s6, x.side, u6, x.n⟩ := by rw [n7, if_neg hk2, if_neg hk5]
  simp only
  rw [← e]
  have hk6 : x.kind = 6 := by omega
  exact (S9 hs hst hx hu (.inr (.inr hk6)) hh (fun h => by omega) (fun h => by omega)).1
theorem F8 (t : RT) {l : List t.ty} {i j : Nat} {x : t.ty} (hi : i < l.length) : nth t (l.set i x) j = if j = i then x else nth t l j := by
 by_cases h : j = i
 ·subst h
  rw [if_pos rfl, m5 t hi]
 ·rw [if_neg h, o9 t (fun hh => h hh.symm)]
theorem b4K {m : PMap} {st : List Sto} {i : Nat} {s : Sto} (h : y1 m st = true) (hi : i < st.length) (hs : y4 m s = true) (hb : s.base = (nth .sto st i).base) : y1 m (st.set i s) = true := by
 obtain ⟨h1, h2, h3⟩ := z7.1 h
 refine z7.2 ⟨h1, by simpa using h2, fun j hj => ?_⟩
 rw [List.length_set] at hj
 rw [F8 .sto hi]
 split
 ·rename_i he
  subst he
  exact ⟨hs, by rw [hb]; exact (h3 j hi).2⟩
 ·exact h3 j hj
theorem sto_app {m : PMap} {s : Sto} {r : Rec} (h : y4 m s = true) (hl : (s.recs.length : Int) < 250) (hr : D4 m r = true) (ha : (j9 m (q9 m s) r).ok = true) : y4 m ⟨s.age, s.base, s.recs ++ [r]⟩ = true := by
 obtain ⟨h1, h2, h3, h4⟩ := s8.1 h
 refine s8.2 ⟨h1, h2, ?_, b2q h4 hr ha⟩
 simp
 omega
theorem eff_ok {m : PMap} {s s' : Srv} {st st' : List Sto} {v : Int} {x : Msg} (hs : y9 m s = true) (hst : y1 m st = true) (hx : u0 m v x = true) (he : Eff m s st x s' st') : y9 m s' = true ∧ y1 m st' = true ∧ st'.length = st.length ∧ s'.up = s.up := by
 obtain ⟨hc0, hcl, hso, hbc⟩ := a2g hst hx
 obtain ⟨hg, hup, hh, hso2⟩ := x8.1 hs
 cases he with
 | same => exact ⟨hs, hst, rfl, rfl⟩
 | ghost hu hk =>
  have hgo : S4 m x.gst = true := by
   simp only [u0, E0, decide_eq_true_eq] at hx
   grind
  exact ⟨x8.2 ⟨gstRec_ok hg hgo, a1B.2 (.inl hu), hh, hso2⟩, hst, rfl, rfl⟩
 | grant hu hk hn ha =>
  have hxn : 1 ≤ x.n ∧ x.n ≤ 900 := by
   simp only [u0, E0, decide_eq_true_eq] at hx
   omega
  obtain ⟨g1, g2⟩ := age_ok (m := m) (s := n5 st x) (a := x.n) hso (by omega) (by omega)
  refine ⟨x8.2 ⟨hg, a1B.2 (.inl hu), fun h hm => ?_, a7h hso2⟩, b4K hst hcl g1 rfl, by simp, rfl⟩
  rcases Q3 hso2 hm with rfl | ⟨h1, _⟩
  ·have hl := (s8.1 hso).2.2.1
   exact y0.2 ⟨hxn, ⟨by simp, by simp; omega⟩, a2V hso⟩
  ·exact hh _ h1
 | lost hu hk hh2 ha => exact ⟨x8.2 ⟨hg, a1B.2 (.inl hu), fun h hm => hh _ (b4o.1 hm).1, del_sort hso2⟩, hst, rfl, rfl⟩
 | write hu hk hh2 ha hc hl hr h1 h2 hf hp =>
  obtain ⟨hm1, hm2⟩ := E1 hh2
  obtain ⟨o1, o2, o3⟩ := y0.1 (hh _ hm1)
  refine ⟨x8.2 ⟨hg, a1B.2 (.inl hu), fun h hm => ?_, a7h hso2⟩, b4K hst hcl (sto_app hso (by omega) hr h1) rfl, by simp, rfl⟩
  rcases Q3 hso2 hm with rfl | ⟨h3, _⟩
  ·exact y0.2 ⟨o1, ⟨by simp only; omega, by simp only; omega⟩, a3F o3 hr⟩
  ·exact hh _ h3
theorem a2D {m : PMap} {t : Arb} {v : Int} (h : A4 m t v = true) (c : Int) (hne : n8 t c ≠ -1) : 0 ≤ n8 t c ∧ n8 t c < v ∧ 0 ≤ c ∧ c < m.cells := by
 have hl := E6 h
 unfold n8 at *
 split at hne
 ·rename_i hc
  rw [if_pos hc]
  obtain ⟨g1, g2, _⟩ := a7I h (k := c.toNat) (by omega)
  have g1 : @LE.le Int _ (-1) (nth .int t.servers c.toNat) := g1
  have g2 : @LE.le Int _ (nth .int t.servers c.toNat) (v - 1) := g2
  have hne : ¬ @Eq Int (nth .int t.servers c.toNat) (-1) := fun hh => hne hh
  have : @LE.le Int _ 0 (nth .int t.servers c.toNat) ∧ @LT.lt Int _ (nth .int t.servers c.toNat) v := ⟨by omega, by omega⟩
  exact ⟨this.1, this.2, hc.1, by omega⟩
 ·exact absurd rfl hne
theorem x9 {m : PMap} {c s : Int} (h : b7 m c s ≠ -1) : (s = 0 ∨ s = 1) ∧ o8 m = true ∧ 0 ≤ c ∧ c < m.cells ∧ 0 ≤ b7 m c s ∧ b7 m c s < m.cells ∧ b7 m (b7 m c s) (1 - s) = c ∧ b7 m c s = c + (2 * s - 1) := by
 obtain ⟨h1, h2, h3, h4⟩ := G7 h
 have e : b7 m c s = c + (2 * s - 1) := by
  rcases h4 with ⟨rfl, h5⟩ | ⟨rfl, h5⟩
  ·rw [b7, if_pos ⟨h1, h2, h3⟩, if_pos ⟨rfl, h5⟩]; omega
  ·rw [b7, if_pos ⟨h1, h2, h3⟩, if_neg (by omega), if_pos ⟨rfl, h5⟩]; omega
 rcases h4 with ⟨rfl, h5⟩ | ⟨rfl, h5⟩
 ·refine ⟨.inl rfl, h1, h2, h3, by omega, by omega, ?_, e⟩
  rw [e, b7, if_pos ⟨h1, by omega, by omega⟩, if_neg (by omega), if_pos ⟨by omega, by omega⟩]
  omega
 ·refine ⟨.inr rfl, h1, h2, h3, by omega, by omega, ?_, e⟩
  rw [e, b7, if_pos ⟨h1, by omega, by omega⟩, if_pos ⟨by omega, by omega⟩]
  omega
theorem c3d (m : PMap) (c : Cll) (i : Nat) (w : Wlk) (o : Ord) : 1 ≤ (M7 m c i w o).code ∧ (M7 m c i w o).code ≤ 7 := by
 unfold M7 X0 X2 X3 X1 P1
 repeat' split
 all_goals (simp [E3])
theorem do_code {m : PMap} {c : Cll} {o : Ord} (h : K3 c o = true) : 1 ≤ (F4 m c o).code ∧ (F4 m c o).code ≤ 7 := by
 obtain ⟨h1, h2⟩ := S5 h
 rw [F4, if_neg h1]
 simp only
 rw [if_neg (by omega), if_neg (by omega)]
 exact c3d m c _ _ o
theorem a8N : a0P s6 = true ∧ a2F u6 = true ∧ a2b F6 = true := by decide
theorem b9v {m : PMap} {v : Int} {x : Msg} {n : Int} (hx : u0 m v x = true) (hk : x.kind = 2) (h1 : 1 ≤ n) (h2 : n ≤ 9) : u0 m v (a1b x n) = true := by
 obtain ⟨z1, z2, z3⟩ := a8N
 simp only [u0, E0, decide_eq_true_eq, a1b] at hx ⊢
 grind
theorem away_ok {m : PMap} {v : Int} {x : Msg} (hx : u0 m v x = true) (hk : x.kind = 2) : u0 m v (a6d x) = true := by
 obtain ⟨z1, z2, z3⟩ := a8N
 simp only [u0, E0, decide_eq_true_eq, a6d] at hx ⊢
 grind
theorem a1O {m : PMap} {v : Int} {x : Msg} (hx : u0 m v x = true) (hk : x.kind = 5 ∨ x.kind = 6 ∨ x.kind = 7) : b7 m x.cell x.side ≠ -1 := by
 simp only [u0, E0, decide_eq_true_eq] at hx
 grind
theorem c0H {m : PMap} {v : Int} {x : Msg} (hx : u0 m v x = true) (hk : x.kind = 5) : I3 m x.pcl = true := by
 simp only [u0, E0, decide_eq_true_eq] at hx
 grind
theorem got_ok {m : PMap} {t : Arb} {v : Int} {x : Msg} {n : Int} (ht : A4 m t v = true) (hx : u0 m v x = true) (hk : x.kind = 5) (h1 : 1 ≤ n) (h2 : n ≤ 5000) : ∀ z ∈ P4 m t x n, u0 m v z = true := by
 intro z hz
 unfold P4 at hz
 split at hz
 ·simp at hz
 rename_i hne
 simp only [List.mem_singleton] at hz
 subst hz
 have hsd := a1O hx (.inl hk)
 obtain ⟨g1, g2, g3, g4, g5, g6, g7, g8⟩ := x9 hsd
 obtain ⟨a1, a2, a3, a4⟩ := a2D ht _ hne
 obtain ⟨z1, z2, z3⟩ := a8N
 obtain ⟨_, _, _, l1, l2⟩ := E6 ht
 have g9 : b7 m (b7 m x.cell x.side) (1 - x.side) ≠ -1 := by omega
 have g10 : n8 t (b7 m x.cell x.side) ≤ v - 1 := by omega
 clear g7 g8 hne hsd ht hx hk
 generalize b7 m x.cell x.side = d at *
 generalize n8 t d = y at *
 simp only [u0, E0, decide_eq_true_eq]
 grind
theorem c0T (m : PMap) (t : Arb) (x : Msg) (n : Int) : (P4 m t x n).length ≤ 1 := by
 unfold P4
 split <;> simp
theorem b8D {m : PMap} {c : Cll} (h : r7 m c = true) {s : Nat} (hs : s < 2) : @LE.le Int _ 0 (nth .int c.ins s) ∧ @LE.le Int _ (nth .int c.ins s) 5000 := by
 exact ⟨(C5 h hs).2.1.1, (C5 h hs).2.1.2⟩
theorem recv_ins {m : PMap} {c : Cll} {s : Nat} {p : Pcl} (hs : s < c.ins.length) (h : (s9 m c s p).ok = true) : @Eq Int (nth .int (s9 m c s p).c.ins s) (nth .int c.ins s + 1) ∧ @Eq Int p.n (nth .int c.ins s) := by
 unfold s9 at *
 split at h
 ·cases h
 rename_i h1
 rw [if_neg h1]
 have hpn : @Eq Int p.n (nth .int c.ins s) := Classical.not_not.1 fun hh => h1 (.inl hh)
 split at h
 ·rename_i h2
  rw [if_pos h2]
  exact ⟨m5 .int hs, hpn⟩
 split at h
 ·cases h
 rename_i h2 h3
 rw [if_neg h2, if_neg h3]
 exact ⟨m5 .int hs, hpn⟩
theorem b2g {m : PMap} {s : Srv} {st : List Sto} {t : Arb} {v : Int} {x : Msg} (hs : y9 m s = true) (hst : y1 m st = true) (ht : A4 m t v = true) (hx : u0 m v x = true) :
  (n9 m s st t x).out.length ≤ 1 ∧ ∀ z ∈ (n9 m s st t x).out, u0 m v z = true := by
 have nil : (([] : List Msg)).length ≤ 1 ∧ ∀ z ∈ ([] : List Msg), u0 m v z = true := ⟨by simp, by simp⟩
 have one : ∀ y : Msg, u0 m v y = true → ([y] : List Msg).length ≤ 1 ∧ ∀ z ∈ [y], u0 m v z = true := fun y hy => ⟨by simp, fun z hz => by simp at hz; subst hz; exact hy⟩
 obtain ⟨_, _, hall, _⟩ := x8.1 hs
 unfold n9
 split
 ·exact nil
 rename_i hu0
 have hu : s.up = true := by
  cases h : s.up with
  | true => rfl
  | false => exact absurd (.inl h) hu0
 split
 ·unfold I7
  split
  ·exact nil
  split
  ·exact nil
  ·exact nil
 split
 ·exact nil
 split
 ·exact nil
 rename_i hk1 hk7 hno
 have hh : v7 s x.cell = true := by simpa using hno
 obtain ⟨hm, hmc⟩ := E1 hh
 have hco := (y0.1 (hall _ hm)).2.2
 split
 ·rename_i hk
  unfold T5
  simp only
  split
  ·exact one _ (away_ok hx hk)
  rename_i hw
  split
  ·exact nil
  rename_i hq1
  split
  ·rename_i hq2
   split
   ·exact nil
   ·rename_i hl0
    have hw' : o7 (e9 s x.cell).state.wlks x.ord.who = true := by simpa using hw
    have hf := a3y hw'
    have hwo := H9 hco (M5 hw').1
    refine one _ (b9v hx hk ?_ ?_)
    ·rw [hf] at hl0 ⊢
     omega
    ·rw [hf]
     omega
  rename_i hq2
  have e : n7 x = ⟨1, x.ord, 0, u6, 0⟩ := by rw [n7, if_pos hk]
  rw [← e]
  have hw' : o7 (e9 s x.cell).state.wlks x.ord.who = true := by simpa using hw
  have W := (S9 hs hst hx hu (.inl hk) hh (fun _ => ⟨hw', by omega⟩) (fun h => by omega)).2
  split
  ·rename_i hn
   obtain ⟨g1, _, _, _, g2, _⟩ := W hn
   have hfr : K3 (e9 s x.cell).state x.ord = true := by
    simp only [K3, Bool.and_eq_true, decide_eq_true_eq]
    exact ⟨hw', by omega⟩
   have hcode : (j9 m (e9 s x.cell).state (n7 x)).code = (F4 m (e9 s x.cell).state x.ord).code := by
    rw [e, j9, if_pos rfl, if_pos hfr]
   have := do_code (m := m) hfr
   refine one _ (b9v hx hk ?_ ?_)
   ·rw [g1, hcode]; omega
   ·rw [g1, hcode]; omega
  ·exact nil
 split
 ·rename_i hk2 hk
  have hsd := a1O hx (.inl hk)
  obtain ⟨s1, _⟩ := x9 hsd
  have hs2 : x.side.toNat < 2 := by omega
  have hii := b8D hco hs2
  have hpp := M3.1 (c0H hx hk)
  unfold T4
  simp only
  split
  ·rename_i hq
   have hq : @LT.lt Int _ x.pcl.n (nth .int (e9 s x.cell).state.ins x.side.toNat) := hq
   exact ⟨c0T _ _ _ _, got_ok ht hx hk (by omega) (by omega)⟩
  rename_i hq
  have e : n7 x = ⟨2, s6, x.side, x.pcl, 0⟩ := by rw [n7, if_neg hk2, if_pos hk]
  rw [← e]
  have W := (S9 hs hst hx hu (.inr (.inl hk)) hh (fun h => by omega) (fun _ => Int.not_lt.1 hq)).2
  split
  ·rename_i hn
   obtain ⟨_, _, _, _, g2, _, g3⟩ := W hn
   have hok2 := a3F hco g3
   have happ : j9 m (e9 s x.cell).state (n7 x) = ⟨(s9 m (e9 s x.cell).state x.side.toNat x.pcl).c, 0, (s9 m (e9 s x.cell).state x.side.toNat x.pcl).ok⟩ := by
    rw [e, j9, if_neg (by simp), if_neg (by rw [hmc]; exact hsd), if_pos rfl]
   rw [happ] at g2 hok2
   have hl2 := (n0 hco).2.2.2.2.2.2.2.2
   have hri := recv_ins (s := x.side.toNat) (by omega) g2
   have hi2 := b8D hok2 hs2
   simp only at hi2
   exact ⟨c0T _ _ _ _, got_ok ht hx hk (by omega) (by omega)⟩
  ·exact nil
 ·exact nil
theorem b6N {m : PMap} {t : Arb} {x z : Msg} {n : Int} (h : z ∈ P4 m t x n) : z.kind = 6 := by
 unfold P4 at h
 split at h
 ·simp at h
 ·simp at h; rw [h]
theorem a5P {m : PMap} {s : Srv} {st : List Sto} {t : Arb} {x z : Msg} (h : z ∈ (n9 m s st t x).out) : z.kind = 3 ∨ z.kind = 4 ∨ z.kind = 6 := by
 unfold n9 at h
 split at h
 ·simp at h
 split at h
 ·unfold I7 at h
  split at h
  ·simp at h
  split at h
  ·simp at h
  ·simp at h
 split at h
 ·simp at h
 split at h
 ·simp at h
 split at h
 ·unfold T5 at h
  simp only at h
  split at h
  ·simp at h; rw [h]; exact .inr (.inl rfl)
  split at h
  ·simp at h
  split at h
  ·split at h
   ·simp at h
   ·simp at h; rw [h]; exact .inl rfl
  split at h
  ·simp at h; rw [h]; exact .inl rfl
  ·simp at h
 split at h
 ·unfold T4 at h
  simp only at h
  split at h
  ·exact .inr (.inr (b6N h))
  split at h
  ·exact .inr (.inr (b6N h))
  ·simp at h
 ·simp at h
theorem m8 {w : Wld} : o6 w = true ↔ A4 w.map w.table w.servers.length = true ∧ y1 w.map w.stores = true ∧ z8 w.map w.rows = true ∧ w.net.length ≤ 40 ∧ w.notes.length ≤ 150 ∧
  (∀ i, i < w.stores.length → (nth .sto w.stores i).age ≤ nth .int w.table.ages i) ∧ (∀ s ∈ w.servers, y9 w.map s = true ∧ ∀ h ∈ s.holds, h.age ≤ nth .int w.table.ages h.state.cell.toNat) ∧
  (∀ x ∈ w.net, u0 w.map w.servers.length x = true ∧ (x.kind = 1 → x.n ≤ nth .int w.table.ages x.cell.toNat)) ∧ ∀ n ∈ w.notes, a3q n = true := by
 simp only [o6, Bool.and_eq_true, decide_eq_true_eq, and_assoc]
 refine and_congr_right fun _ => and_congr_right fun _ => and_congr_right fun _ => and_congr_right fun _ => and_congr_right fun _ => ?_
 refine and_congr ?_ (and_congr ?_ (and_congr ?_ ?_))
 ·rw [k9]; simp only [a0K, decide_eq_true_eq]
 ·rw [k9]
  simp only [a2J, Bool.and_eq_true, k9, a3J, decide_eq_true_eq]
  constructor
  ·intro h s hs
   obtain ⟨i, hi, rfl⟩ := L6 .srv hs
   refine ⟨(h i hi).1, fun g hg => ?_⟩
   obtain ⟨j, hj, rfl⟩ := L6 .hld hg
   exact (h i hi).2 j hj
  ·intro h i hi
   have := h _ (n6 .srv hi)
   exact ⟨this.1, fun j hj => this.2 _ (n6 .hld hj)⟩
 ·rw [k9]
  simp only [a6c, Bool.and_eq_true, decide_eq_true_eq]
  constructor
  ·intro h s hs
   obtain ⟨i, hi, rfl⟩ := L6 .msg hs
   exact h i hi
  ·intro h i hi
   exact h _ (n6 .msg hi)
 ·rw [k9]
  simp only [b8w]
  constructor
  ·intro h s hs
   obtain ⟨i, hi, rfl⟩ := L6 .note hs
   exact h i hi
  ·intro h i hi
   exact h _ (n6 .note hi)
theorem a5u {w : Wld} {l : List Msg} (h : o6 w = true) (hl : ∀ x ∈ l, u0 w.map w.servers.length x = true ∧ (x.kind = 1 → x.n ≤ nth .int w.table.ages x.cell.toNat)) : o6 (u5 w l) = true := by
 obtain ⟨h1, h2, h3, h4, h5, h6, h7, h8, h9⟩ := m8.1 h
 refine m8.2 ⟨h1, h2, h3, ?_, h5, h6, h7, fun x hx => ?_, h9⟩
 ·simp only [u5, List.length_append, List.length_take]; omega
 ·simp only [u5, List.mem_append] at hx
  rcases hx with hx | hx
  ·exact h8 x hx
  ·exact hl x (List.mem_of_mem_take hx)
theorem cut_ok {w : Wld} {i : Nat} (h : o6 w = true) : o6 (wCut w i) = true := by
 obtain ⟨h1, h2, h3, h4, h5, h6, h7, h8, h9⟩ := m8.1 h
 refine m8.2 ⟨h1, h2, h3, ?_, h5, h6, h7, fun x hx => h8 x (List.mem_of_mem_eraseIdx hx), h9⟩
 have := List.length_eraseIdx_le w.net i
 simp only [wCut]; omega
theorem eff_ages {m : PMap} {s s' : Srv} {st st' : List Sto} {v : Int} {x : Msg} {A : List Int} (hs : y9 m s = true) (hst : y1 m st = true) (hx : u0 m v x = true) (he : Eff m s st x s' st') (hA : (A.length : Int) = m.cells)
  (h1 : ∀ i, i < st.length → (nth .sto st i).age ≤ nth .int A i) (h2 : ∀ h ∈ s.holds, h.age ≤ nth .int A h.state.cell.toNat) (h3 : x.kind = 1 → x.n ≤ nth .int A x.cell.toNat) :
  (∀ i, i < st'.length → (nth .sto st' i).age ≤ nth .int A i) ∧ ∀ h ∈ s'.holds, h.age ≤ nth .int A h.state.cell.toNat := by
 obtain ⟨hc0, hcl, hso, hbc⟩ := a2g hst hx
 obtain ⟨hg, hup, hh, hso2⟩ := x8.1 hs
 cases he with
 | same => exact ⟨h1, h2⟩
 | ghost hu hk => exact ⟨h1, h2⟩
 | grant hu hk hn ha =>
  refine ⟨fun i hi => ?_, fun h hm => ?_⟩
  ·rw [List.length_set] at hi
   rw [F8 .sto hcl]
   split
   ·rename_i he; subst he; exact h3 hk
   ·exact h1 i hi
  ·rcases Q3 hso2 hm with rfl | ⟨h5, _⟩
   ·simp only
    rw [a0w, hbc]
    exact h3 hk
   ·exact h2 h h5
 | lost hu hk hh2 ha => exact ⟨h1, fun h hm => h2 h (b4o.1 hm).1⟩
 | write hu hk hh2 ha hc hl hr g1 g2 hf hp =>
  obtain ⟨hm1, hm2⟩ := E1 hh2
  refine ⟨fun i hi => ?_, fun h hm => ?_⟩
  ·rw [List.length_set] at hi
   rw [F8 .sto hcl]
   split
   ·rename_i he; subst he; exact h1 _ hcl
   ·exact h1 i hi
  ·rcases Q3 hso2 hm with rfl | ⟨h5, _⟩
   ·simp only
    rw [X6]
    exact h2 _ hm1
   ·exact h2 h h5
theorem hear_ok {w : Wld} {x : Msg} (h : o6 w = true) (hx : u0 w.map w.servers.length x = true) (hx2 : x.kind = 1 → x.n ≤ nth .int w.table.ages x.cell.toNat) (hd : x.dest ≠ -1) : o6 (a1w w x) = true ∧ (a1w w x).servers.length = w.servers.length := by
 obtain ⟨h1, h2, h3, h4, h5, h6, h7, h8, h9⟩ := m8.1 h
 have hdd : 0 ≤ x.dest ∧ x.dest < w.servers.length := by
  rcases a1P hx with ⟨_, g1, g2⟩ | ⟨_, g⟩
  ·exact ⟨g1, g2⟩
  ·exact absurd g hd
 have hdn : x.dest.toNat < w.servers.length := by omega
 obtain ⟨o1, o2⟩ := h7 _ (n6 .srv hdn)
 have he := a7y (t := w.table) o1 h2 hx
 obtain ⟨e1, e2, e3, e4⟩ := eff_ok o1 h2 hx he
 obtain ⟨_, hal, _⟩ := E6 h1
 obtain ⟨a1, a2⟩ := eff_ages o1 h2 hx he hal h6 o2 hx2
 refine ⟨?_, by simp [a1w, u5]⟩
 unfold a1w
 simp only
 refine a5u ?_ fun z hz => ?_
 ·refine m8.2 ⟨by simpa using h1, e2, h3, h4, h5, a1, fun s hs => ?_, by simpa using h8, h9⟩
  rcases List.mem_or_eq_of_mem_set hs with hs | rfl
  ·exact h7 s hs
  ·exact ⟨e1, a2⟩
 ·have ho := (b2g o1 h2 h1 hx).2 z hz
  refine ⟨by simpa using ho, fun hk => ?_⟩
  have := a5P hz
  omega
theorem b4d {m : PMap} {l : List Row} {i : Nat} {r : Row} (h : z8 m l = true) (hi : i < l.length) (hr : R9 m r = true) (hw : r.who = (nth .row l i).who) : z8 m (l.set i r) = true := by
 have h0 := h
 unfold z8 at h ⊢
 rw [Bool.and_eq_true] at h ⊢
 refine ⟨h.1, (k9 _ _).2 fun j hj => ?_⟩
 rw [List.length_set] at hj
 obtain ⟨h1, h2⟩ := a4T h0 hj
 have hwho : ∀ k, (nth .row (l.set i r) k).who = (nth .row l k).who := fun k => by
  rw [F8 .row hi]
  split
  ·rename_i he; subst he; exact hw
  ·rfl
 simp only [I5, Bool.and_eq_true, Bool.or_eq_true, decide_eq_true_eq, hwho]
 refine ⟨?_, ?_⟩
 ·rw [F8 .row hi]
  split
  ·exact hr
  ·exact h1
 ·by_cases hj0 : j = 0
  ·exact .inl hj0
  ·exact .inr (h2 (by omega))
theorem b7J {m : PMap} {l : List Row} {who : Int} (h : z8 m l = true) (hp : 0 ≤ l6 l who) : R9 m (rowAt l who) = true ∧ (rowAt l who).who = who ∧ (l6 l who).toNat < l.length := by
 have hlt := a1o l who
 have hl : (l6 l who).toNat < l.length := by omega
 exact ⟨(a4T h hl).1, b3l hp, hl⟩
theorem gwy_plc {m : PMap} {l : List Row} (h : z8 m l = true) : o8 m = true := by
 unfold z8 at h
 rw [Bool.and_eq_true] at h
 exact h.1
theorem a0p {m : PMap} {r : Row} : R9 m r = true ↔ (1 ≤ r.who ∧ r.who ≤ 9 ∧ 0 ≤ r.cell ∧ r.cell < m.cells ∧ 0 ≤ r.seq ∧ r.seq ≤ 900 ∧ 0 ≤ r.code ∧ r.code ≤ 9) ∧ (r.busy = false → a0P r.ord = true) ∧ (r.busy = true → K6 r.ord = true ∧ r.ord.who = r.who ∧ r.ord.seq = r.seq + 1) := by
 simp only [R9, decide_eq_true_eq]
 constructor
 ·rintro ⟨a, b, c, d, e, f, g, h, i, j⟩
  exact ⟨⟨a, b, c, d, e, f, g, h⟩, i, j⟩
 ·rintro ⟨⟨a, b, c, d, e, f, g, h⟩, i, j⟩
  exact ⟨a, b, c, d, e, f, g, h, i, j⟩
theorem cell_mod {c n : Int} (h0 : 0 ≤ c) (h1 : c < n) (h2 : n ≤ 4) : 0 ≤ (c + 1).tmod n ∧ (c + 1).tmod n < n := by
 constructor
 ·exact Int.tmod_nonneg _ (by omega)
 ·have := Int.tmod_lt_of_pos (c + 1) (show 0 < n by omega)
  omega
theorem b0g {m : PMap} {l : List Row} {v : Int} {x : Msg} (h : z8 m l = true) (hx : u0 m v x = true) : z8 m (y7 m l x).b = true ∧ (y7 m l x).b.length = l.length ∧
  ((y7 m l x).ok = true → x.kind = 3 ∧ 0 ≤ l6 l x.ord.who ∧ (rowAt l x.ord.who).busy = true ∧ (rowAt l x.ord.who).ord = x.ord ∧ a3q ⟨x.ord.who, x.ord.seq, x.n⟩ = true) := by
 unfold y7
 simp only
 split
 ·rename_i hc
  obtain ⟨hp, hb, ho⟩ := hc
  obtain ⟨r1, r2, r3⟩ := b7J h hp
  obtain ⟨g1, g2, g3⟩ := a0p.1 r1
  obtain ⟨g4, g5, g6⟩ := g3 hb
  rw [ho] at g4 g6
  obtain ⟨m1, m2⟩ := a9M hx
  have hpl := p5.1 (gwy_plc h)
  split
  ·rename_i hk
   have hn : 1 ≤ x.n ∧ x.n ≤ 9 := by
    simp only [u0, E0, decide_eq_true_eq] at hx
    grind
   have hoo := H8.1 g4
   refine ⟨b4d h r3 (a0p.2 ⟨⟨by simp only; omega, by simp only; omega, m1, m2, by simp only; omega, by simp only; omega, by simp only; omega, hn.2⟩, fun _ => a8N.1, fun hh => by cases hh⟩) rfl, by simp, fun _ => ⟨hk, hp, hb, ho, ?_⟩⟩
   simp only [a3q, decide_eq_true_eq]
   omega
  ·split
   ·rename_i hk
    have hcr := cell_mod g1.2.2.1 g1.2.2.2.1 (by omega)
    refine ⟨b4d h r3 (a0p.2 ⟨⟨g1.1, g1.2.1, hcr.1, hcr.2, g1.2.2.2.2⟩, g2, g3⟩) rfl, by simp, fun hh => by cases hh⟩
   ·exact ⟨h, rfl, fun hh => by cases hh⟩
 ·exact ⟨h, rfl, fun hh => by cases hh⟩
theorem gwyAsk_ok {m : PMap} {l : List Row} {who kind dest n : Int} (h : z8 m l = true) : z8 m (M6 l who kind dest n).b = true ∧ (M6 l who kind dest n).b.length = l.length := by
 unfold M6
 split
 ·rename_i hc
  obtain ⟨hp, hb, ho⟩ := hc
  obtain ⟨r1, r2, r3⟩ := b7J h hp
  have r1 : R9 m (nth .row l (l6 l who).toNat) = true := r1
  have r2 : (nth .row l (l6 l who).toNat).who = who := r2
  obtain ⟨g1, g2, g3⟩ := a0p.1 r1
  exact ⟨b4d h r3 (a0p.2 ⟨g1, (fun hh => by cases hh), fun _ => ⟨ho, r2.symm, rfl⟩⟩) rfl, by simp⟩
 ·exact ⟨h, rfl⟩
theorem gwySay_ok {m : PMap} {l : List Row} {t : Arb} {v who : Int} (h : z8 m l = true) (ht : A4 m t v = true) (hs : (R6 l t who).ok = true) : u0 m v (R6 l t who).x = true ∧ (R6 l t who).x.kind = 2 := by
 unfold R6 at *
 split at hs
 ·rename_i hc
  rw [if_pos hc]
  obtain ⟨hp, hb, ho⟩ := hc
  obtain ⟨r1, r2, r3⟩ := b7J h hp
  obtain ⟨g1, g2, g3⟩ := a0p.1 r1
  obtain ⟨a1, a2, a3, a4⟩ := a2D ht _ ho
  obtain ⟨z1, z2, z3⟩ := a8N
  obtain ⟨_, _, l0, l1, l2⟩ := E6 ht
  have g4 := (g3 hb).1
  refine ⟨?_, rfl⟩
  have a2' : n8 t (rowAt l who).cell ≤ v - 1 := by omega
  generalize n8 t (rowAt l who).cell = y at *
  simp only [u0, E0, decide_eq_true_eq]
  grind
 ·cases hs
theorem a6q {m : PMap} {t : Arb} {v cell server : Int} (ht : A4 m t v = true) (hg : (r6 t v cell server).ok = true) :
  A4 m (r6 t v cell server).t v = true ∧ 0 ≤ cell ∧ cell < m.cells ∧ 0 ≤ server ∧ server < v ∧ (r6 t v cell server).t = ⟨t.servers.set cell.toNat server, t.ages.set cell.toNat (nth .int t.ages cell.toNat + 1)⟩ ∧
  @LE.le Int _ 0 (nth .int t.ages cell.toNat) ∧ @LT.lt Int _ (nth .int t.ages cell.toNat) 900 := by
 unfold r6 at *
 split at hg
 ·rename_i hc
  rw [if_pos hc]
  obtain ⟨c1, c2, c3, c4, c5⟩ := hc
  obtain ⟨l1, l2, l3, l4, l5⟩ := E6 ht
  obtain ⟨b1, b2, b3, b4, b5⟩ := a7I ht (k := cell.toNat) (by omega)
  have b3 : @LE.le Int _ 0 (nth .int t.ages cell.toNat) := b3
  have b4 : @LE.le Int _ (nth .int t.ages cell.toNat) 900 := b4
  have c5 : ¬ @Eq Int (nth .int t.ages cell.toNat) 900 := c5
  refine ⟨?_, c1, by omega, c3, c4, rfl, b3, by omega⟩
  unfold A4
  rw [Bool.and_eq_true]
  refine ⟨by simp only [V7, decide_eq_true_eq, List.length_set]; exact ⟨l3, l4, l5, l1, l2⟩, (k9 _ _).2 fun k hk => ?_⟩
  rw [List.length_set] at hk
  have hk2 : cell.toNat < t.ages.length := by omega
  have hk3 : cell.toNat < t.servers.length := by omega
  obtain ⟨d1, d2, d3, d4, d5⟩ := a7I ht hk
  simp only [a2M, decide_eq_true_eq]
  rw [F8 .int hk3, F8 .int hk2]
  by_cases he : k = cell.toNat
  ·simp only [if_pos he]
   have : ∀ a : Int, 0 ≤ a → a ≤ 900 → ¬ a = 900 → -1 ≤ server ∧ server ≤ v - 1 ∧ 0 ≤ a + 1 ∧ a + 1 ≤ 900 ∧ (server = -1 ↔ a + 1 = 0) := fun a h1 h2 h3 => ⟨by omega, by omega, by omega, by omega, by omega⟩
   exact this _ b3 b4 c5
  ·simp only [if_neg he]
   exact ⟨d1, d2, d3, d4, d5⟩
 ·cases hg
theorem b9o {m : PMap} {t : Arb} {v cell server : Int} (ht : A4 m t v = true) (hg : (r6 t v cell server).ok = true) (i : Nat) : @LE.le Int _ (nth .int t.ages i) (nth .int (r6 t v cell server).t.ages i) := by
 obtain ⟨_, c1, c2, _, _, e, b3, b4⟩ := a6q ht hg
 obtain ⟨_, l2, _⟩ := E6 ht
 rw [e]
 simp only
 rw [F8 .int (by omega)]
 split
 ·rename_i he
  subst he
  have : ∀ a : Int, a ≤ a + 1 := fun a => by omega
  exact this _
 ·exact Int.le_refl _
theorem tick_ok {m : PMap} {s : Srv} {t : Arb} {v cell : Int} (hs : y9 m s = true) (ht : A4 m t v = true) : ∀ z ∈ B5 m s t cell, u0 m v z = true ∧ (z.kind = 5 ∨ z.kind = 7) := by
 intro z hz
 unfold B5 at hz
 split at hz
 rotate_left
 ·simp at hz
 rename_i hh
 obtain ⟨hm, hc⟩ := E1 hh
 have hho := (x8.1 hs).2.2.1 _ hm
 generalize e9 s cell = h at *
 have hco := (y0.1 hho).2.2
 have hcf := n0 hco
 obtain ⟨z1, z2, z3⟩ := a8N
 obtain ⟨_, _, l0, l1, l2⟩ := E6 ht
 have go : ∀ side : Nat, side < 2 → ∀ z ∈ A5 m t h cell side, u0 m v z = true ∧ (z.kind = 5 ∨ z.kind = 7) := by
  intro side hsd z hz
  unfold A5 at hz
  simp only at hz
  split at hz
  ·simp at hz
  rename_i hne
  have hn1 : b7 m cell side ≠ -1 := fun e => hne (.inl e)
  have hn2 : n8 t (b7 m cell side) ≠ -1 := fun e => hne (.inr e)
  obtain ⟨g1, g2, g3, g4, g5, g6, g7, g8⟩ := x9 hn1
  obtain ⟨a1, a2, a3, a4⟩ := a2D ht _ hn2
  have g9 : b7 m (b7 m cell side) (1 - side) ≠ -1 := by omega
  have a5 : n8 t (b7 m cell side) ≤ v - 1 := by omega
  rcases List.mem_append.1 hz with hz | hz
  ·obtain ⟨p, hp, rfl⟩ := List.mem_map.1 hz
   refine ⟨?_, .inl rfl⟩
   have hpo : I3 m p = true := by
    have hp := List.mem_of_mem_take hp
    have hl := (C5 hco hsd).2.2.2
    rw [Int.toNat_natCast] at hp
    obtain ⟨i, hi, rfl⟩ := L6 .pcl hp
    exact ((J1.1 hl).2.2.2.2 i hi).1
   clear hn1 hn2 hne g7 g8 hz
   generalize b7 m cell side = d at *
   generalize n8 t d = y at *
   simp only [u0, E0, decide_eq_true_eq]
   grind
  ·obtain ⟨g, hg, rfl⟩ := List.mem_map.1 hz
   refine ⟨?_, .inr rfl⟩
   have hg := List.mem_of_mem_take hg
   unfold m9 ghTo at hg
   obtain ⟨w, hw, rfl⟩ := List.mem_map.1 hg
   rw [a8K] at hw
   obtain ⟨hw1, hw2⟩ := List.mem_filter.1 hw
   have hwo := (C7.1 hco).1 w hw1
   have hgo : S4 m ⟨h.state.cell, h.count, w⟩ = true := by
    obtain ⟨_, k1, _⟩ := y0.1 hho
    simp only [S4, decide_eq_true_eq]
    refine ⟨k1.1, k1.2, hwo.1, hwo.2, ?_⟩
    rcases g1 with g1 | g1
    ·rw [g1] at hw2; exact .inl hw2
    ·rw [g1] at hw2; exact .inr hw2
   have hsrc : h.state.cell = b7 m (b7 m cell side) (1 - side) := by rw [g7, hc]
   clear hn1 hn2 hne g7 g8 hz hw hg
   generalize b7 m cell side = d at *
   generalize n8 t d = y at *
   simp only [u0, E0, decide_eq_true_eq]
   grind
 rcases List.mem_append.1 hz with hz | hz
 ·exact go 0 (by omega) z hz
 ·exact go 1 (by omega) z hz
theorem b2Y {w : Wld} {e : Evt} (h : o6 w = true) : o6 (u4 w e) = true ∧ (u4 w e).servers.length = w.servers.length ∧ (u4 w e).map = w.map := by
 obtain ⟨h1, h2, h3, h4, h5, h6, h7, h8, h9⟩ := m8.1 h
 have plain : ∀ z : Msg, z.kind ≠ 1 → (z.kind = 1 → z.n ≤ nth .int w.table.ages z.cell.toNat) := fun z hz hk => absurd hk hz
 unfold u4
 split
 ·simp only
  split
  ·rename_i hg
   obtain ⟨g1, c1, c2, c3, c4, ge, b3, b4⟩ := a6q h1 hg
   have hmono := b9o h1 hg
   obtain ⟨l1, l2, l3, l4, l5⟩ := E6 h1
   refine ⟨a5u (m8.2 ⟨g1, h2, h3, h4, h5, fun i hi => Int.le_trans (h6 i hi) (hmono i), fun s hs => ⟨(h7 s hs).1, fun x hx => Int.le_trans ((h7 s hs).2 x hx) (hmono _)⟩, fun x hx => ⟨(h8 x hx).1, fun hk => Int.le_trans ((h8 x hx).2 hk) (hmono _)⟩, h9⟩) fun x hx => ?_, by simp [u5], rfl⟩
   simp only [List.mem_singleton] at hx
   subst hx
   refine ⟨?_, fun _ => Int.le_refl _⟩
   obtain ⟨z1, z2, z3⟩ := a8N
   have hn : @LE.le Int _ 1 (nth .int (r6 w.table w.servers.length e.pos e.dest).t.ages e.pos.toNat) ∧ @LE.le Int _ (nth .int (r6 w.table w.servers.length e.pos e.dest).t.ages e.pos.toNat) 900 := by
    rw [ge]
    simp only
    rw [m5 .int (by omega)]
    have : ∀ a : Int, 0 ≤ a → a < 900 → 1 ≤ a + 1 ∧ a + 1 ≤ 900 := fun a _ _ => by omega
    exact this _ b3 b4
   have hd : e.dest ≤ (w.servers.length : Int) - 1 := by omega
   generalize nth .int (r6 w.table w.servers.length e.pos e.dest).t.ages e.pos.toNat = y at *
   simp only [u0, E0, decide_eq_true_eq]
   grind
  ·exact ⟨h, rfl, rfl⟩
 split
 ·have hg := @gwyAsk_ok w.map w.rows e.pos e.what e.dest e.n h3
  exact ⟨m8.2 ⟨h1, h2, hg.1, h4, h5, h6, h7, h8, h9⟩, rfl, rfl⟩
 split
 ·split
  ·rename_i hs
   obtain ⟨g1, g2⟩ := gwySay_ok h3 h1 hs
   exact ⟨a5u h fun x hx => by
    simp only [List.mem_singleton] at hx
    subst hx
    exact ⟨g1, plain _ (by omega)⟩, by simp [u5], rfl⟩
  ·exact ⟨h, rfl, rfl⟩
 split
 ·split
  ·rename_i hp
   have hpl : e.pos.toNat < w.net.length := by omega
   have hx := h8 _ (n6 .msg hpl)
   split
   ·unfold S7
    simp only
    have hc := @cut_ok w e.pos.toNat h
    split
    ·unfold a2I
     simp only
     obtain ⟨c1, c2, c3, c4, c5, c6, c7, c8, c9⟩ := m8.1 hc
     obtain ⟨g1, g2, g3⟩ := b0g c3 (by simpa [wCut] using hx.1)
     refine ⟨m8.2 ⟨c1, c2, g1, c4, ?_, c6, c7, c8, ?_⟩, rfl, rfl⟩
     ·simp only
      split
      ·rename_i hh
       simp only [List.length_append, List.length_singleton]
       omega
      ·exact c5
     ·intro n hn
      simp only at hn
      split at hn
      ·rename_i hh
       rcases List.mem_append.1 hn with hn | hn
       ·exact c9 n hn
       ·simp only [List.mem_singleton] at hn
        subst hn
        exact (g3 hh.1).2.2.2.2
      ·exact c9 n hn
    ·rename_i hd
     obtain ⟨g1, g2⟩ := hear_ok hc (by simpa [wCut] using hx.1) (by simpa [wCut] using hx.2) hd
     exact ⟨g1, by rw [g2]; rfl, rfl⟩
   split
   ·exact ⟨cut_ok h, rfl, rfl⟩
   ·exact ⟨a5u h fun x hx' => by
     simp only [List.mem_singleton] at hx'
     subst hx'
     exact hx, by simp [u5], rfl⟩
  ·exact ⟨h, rfl, rfl⟩
 split
 ·split
  ·rename_i hp
   have hpl : e.pos.toNat < w.servers.length := by omega
   have hz : ∀ b : Bool, y9 w.map ⟨b, [], []⟩ = true := fun b => x8.2 ⟨W8.2 ⟨(E6 h1).2.2.1, by simp, by simp, by simp⟩, a1B.2 (.inr ⟨rfl, rfl⟩), by simp, by simp⟩
   have life : ∀ b : Bool, o6 ⟨w.map, w.servers.set e.pos.toNat ⟨b, [], []⟩, w.stores, w.table, w.rows, w.net, w.notes⟩ = true := fun b => m8.2 ⟨by simpa using h1, h2, h3, h4, h5, h6, fun s hs => by
    rcases List.mem_or_eq_of_mem_set hs with hs | rfl
    ·exact h7 s hs
    ·exact ⟨hz b, by simp⟩, by simpa using h8, h9⟩
   split
   ·have ht := @tick_ok w.map (nth .srv w.servers e.pos.toNat) w.table w.servers.length e.dest (h7 _ (n6 .srv hpl)).1 h1
    exact ⟨a5u h fun x hx => ⟨(ht x hx).1, plain _ (by have := (ht x hx).2; omega)⟩, by simp [u5], rfl⟩
   split
   ·exact ⟨life false, by simp, rfl⟩
   split
   ·exact ⟨life true, by simp, rfl⟩
   ·exact ⟨h, rfl, rfl⟩
  ·exact ⟨h, rfl, rfl⟩
 ·exact ⟨h, rfl, rfl⟩
end Go.Mo
namespace Go.Sx
inductive ImpB (P Q : Prop) : Prop where
 | mk (h : P → Q) : ImpB P Q
theorem ImpB.out {P Q : Prop} (h : ImpB P Q) : P → Q := let ⟨h⟩ := h; h
inductive MeasB (a b : Th Nat) : Prop where
 | mk (h : a () < b ()) : MeasB a b
theorem MeasB.out {a b : Th Nat} (h : MeasB a b) : a () < b () := let ⟨h⟩ := h; h
theorem LoopIn.wb {A : Ann} {σ0 σ : St} (i : A.ι) (hc : A.cond σ0 i ()) (hm : l8 σ (A.st σ0 i)) : LoopIn A σ0 σ := ⟨i, hc, hm⟩
theorem LoopBack.wb {A : Ann} {σ0 σ : St} {i : A.ι} (i' : A.ι) (hc : A.cond σ0 i' ()) (hd : MeasB (A.meas σ0 i') (A.meas σ0 i)) (hm : l8 σ (A.st σ0 i')) : LoopBack A σ0 i σ := ⟨i', hc, hd.out, hm⟩
def thinC (c : C) : C := match c with
 | .att (.list _ _) => .unk
 | .att a => .att a
 | .ptr k v j => .ptr k v j
 | _ => .unk
def thinCh (c : Ch) : Ch := match c with
 | .var bx cs => .var bx (cs.map thinC)
 | c => c
def b7w : Hp → Hp
 | .leaf => .leaf
 | .node e l r => .node (e.1, thinCh e.2) (b7w l) (b7w r)
def thinV (v : V) : V := match v with
 | .one (.ptr k v j) => .one (.ptr k v j)
 | _ => .one .unk
def b2S : Tr V → Tr V
 | .leaf => .leaf
 | .node v l r => .node (thinV v) (b2S l) (b2S r)
def St.thin (σ : St) (kv : Nat) : St := ⟨σ.tm, (b7w σ.hp).set kv (σ.hp.get kv), σ.up.map b2S⟩
def St.only (σ : St) (ds : List Nat) : St := ⟨ds.foldr (fun d t => t.set d (σ.tm.get d)) .leaf, σ.hp, σ.up⟩
def St.pk (σ : St) (d : Nat) : Nat := match σ.tm.get d with
 | .one (.ptr k _ _) => k
 | _ => 0
def ownK (c : C) : Nat := match c with
 | .own k _ => k
 | _ => 0
def St.okC (σ : St) (k j : Nat) : Nat := match (σ.hp.get k).2 with
 | .var _ cs => ownK ((cs[j]?).getD .unk)
 | _ => 0
def St.okT (σ : St) (d : Nat) : Nat := match σ.tm.get d with
 | .one c => ownK c
 | _ => 0
def b3P : Th (List Msg) := fun _ => []
def b9i (t : RT) (l : Th (List t.ty)) : Th (List Msg) := match t, l with
 | .msg, l => l
 | _, _ => b3P
def chMsgs (c : Ch) : Th (List Msg) := match c with
 | .row _ _ t l => b9i t l
 | .ro t l => b9i t l
 | _ => b3P
def St.rowM (σ : St) (k : Nat) : Th (List Msg) := chMsgs (σ.hp.get k).2
def atMsgs (σ : St) (c : C) : Th (List Msg) := match c with
 | .att (.list t l) => b9i t l
 | .own k _ => σ.rowM k
 | _ => b3P
def St.tmM (σ : St) (d : Nat) : Th (List Msg) := match σ.tm.get d with
 | .one c => atMsgs σ c
 | _ => b3P
def Z9 : Th Int := fun _ => 0
def St.tmI (σ : St) (d : Nat) : Th Int := match σ.tm.get d with
 | .one (.att (.int _ n)) => n
 | _ => Z9
end Go.Sx
namespace Go.Mo
open Go.Sx
def Z0 (l : List Msg) (i : Nat) (k : Nat) : List Msg := (l.take k).eraseIdx i
theorem b9d (l : List Msg) (i : Nat) : Z0 l i 0 = [] := by simp [Z0]
theorem b2v (l : List Msg) (i : Nat) : Z0 l i l.length = l.eraseIdx i := by simp [Z0]
theorem cutTo_len (l : List Msg) (i k : Nat) : (Z0 l i k).length ≤ k := by
 unfold Z0
 have := List.length_eraseIdx_le (l.take k) i
 have h2 := List.length_take_le k l
 omega
theorem cutTo_no {l : List Msg} {i k : Nat} (h : k < l.length) (hne : ¬ k = i) : Z0 l i (k + 1) = Z0 l i k ++ [nth .msg l k] := by
 unfold Z0
 have h1 : l.take (k + 1) = l.take k ++ [nth .msg l k] := G6 .msg h
 rw [h1]
 have h2 : (l.take k).length = k := by simp; omega
 by_cases h3 : i < k
 ·rw [List.eraseIdx_append_of_lt_length (by omega)]
 ·rw [List.eraseIdx_append_of_length_le (by omega), List.eraseIdx_of_length_le (by simp; omega), List.eraseIdx_of_length_le (by omega)]
theorem cutTo_yes {l : List Msg} {i k : Nat} (h : k < l.length) (hne : k = i) : Z0 l i (k + 1) = Z0 l i k := by
 unfold Z0
 subst hne
 have h1 : l.take (k + 1) = l.take k ++ [nth .msg l k] := G6 .msg h
 have h2 : (l.take k).length = k := by simp; omega
 rw [h1, List.eraseIdx_append_of_length_le (by omega), List.eraseIdx_of_length_le (l := l.take k) (by omega), h2, Nat.sub_self]
 simp
end Go.Mo
namespace Go.Sx
theorem LoopIn.wf {A : Ann} {σ0 σ : St} (f : St → A.ι) (hc : A.cond σ0 (f σ) ()) (hm : l8 σ (A.st σ0 (f σ))) : LoopIn A σ0 σ := ⟨f σ, hc, hm⟩
theorem LoopBack.wf {A : Ann} {σ0 σ : St} {i : A.ι} (f : St → A.ι) (hc : A.cond σ0 (f σ) ()) (hd : MeasB (A.meas σ0 (f σ)) (A.meas σ0 i)) (hm : l8 σ (A.st σ0 (f σ))) : LoopBack A σ0 i σ := ⟨f σ, hc, hd.out, hm⟩
def asI (c : C) : Th Int := match c with
 | .att (.int _ n) => n
 | _ => Z9
def y3 : Th Bool := fun _ => false
def asB (c : C) : Th Bool := match c with
 | .att (.bool b) => fun _ => b.val
 | _ => y3
def a4O (t : RT) : Th (List t.ty) := fun _ => []
def asL (t : RT) (c : C) : Th (List t.ty) := match c with
 | .att (.list t' l) => if h : t' = t then P2 h l else a4O t
 | _ => a4O t
def St.ce (σ : St) (k j : Nat) : C := match (σ.hp.get k).2 with
 | .var _ cs => (cs[j]?).getD .unk
 | _ => .unk
def chL (t : RT) (c : Ch) : Th (List t.ty) := match c with
 | .row _ _ t' l => if h : t' = t then P2 h l else a4O t
 | .ro t' l => if h : t' = t then P2 h l else a4O t
 | _ => a4O t
def St.rowL (t : RT) (σ : St) (k : Nat) : Th (List t.ty) := chL t (σ.hp.get k).2
def mkRow (a b : Th Int) (c : Th Bool) (d e f g h i j : Th Int) : Th Row := fun _ => ⟨a (), b (), c (), ⟨d (), e (), f (), g (), h ()⟩, i (), j ()⟩
def rdRow (σ : St) (k : Nat) : Th Row := mkRow (asI (σ.ce k 0)) (asI (σ.ce k 1)) (asB (σ.ce k 2)) (asI (σ.ce k 3)) (asI (σ.ce k 4)) (asI (σ.ce k 5)) (asI (σ.ce k 6)) (asI (σ.ce k 7)) (asI (σ.ce k 8)) (asI (σ.ce k 9))
def a9N (a b : Th Int) (c : Th (List Srv)) (d : Th (List Sto)) (e f : Th (List Int)) (g : Th (List Row)) (h : Th (List Msg)) (i : Th (List Note)) : Th Wld := fun _ => ⟨⟨a (), b ()⟩, c (), d (), ⟨e (), f ()⟩, g (), h (), i ()⟩
def Q2 (σ : St) (k : Nat) : Th Wld := a9N (asI (σ.ce k 0)) (asI (σ.ce k 1)) (asL .srv (σ.ce k 2)) (asL .sto (σ.ce k 3)) (asL .int (σ.ce k 4)) (asL .int (σ.ce k 5)) (asL .row (σ.ce k 6)) (asL .msg (σ.ce k 7)) (asL .note (σ.ce k 8))
def St.a5b (σ : St) (k : Nat) : Nat → List A → St
 | _, [] => σ
 | j, a :: r => (σ.F5 k j (.att a)).a5b k (j + 1) r
end Go.Sx
namespace Go.Mo
open Go.Sx
def a6D (m : PMap) (cell : Int) (w : Wlk) : Bool := decide (l9 m w.pos = cell)
def K0 (m : PMap) (cell : Int) (l : List Wlk) (k : Nat) : List Wlk := (l.take k).filter (a6D m cell)
theorem b6x (m : PMap) (cell : Int) (l : List Wlk) : K0 m cell l 0 = [] := by simp [K0]
theorem b8G (m : PMap) (cell : Int) (l : List Wlk) (k : Nat) : (K0 m cell l k).length ≤ k ∧ (K0 m cell l k).length ≤ l.length := by
 unfold K0
 have h1 := List.length_filter_le (a6D m cell) (l.take k)
 have h2 := List.length_take_le k l
 have h3 := List.length_take_le' k l
 omega
theorem b8F {m : PMap} {cell : Int} {l : List Wlk} {k : Nat} (h : k < l.length) (hc : l9 m (nth .wlk l k).pos = cell) : K0 m cell l (k + 1) = K0 m cell l k ++ [nth .wlk l k] := by
 unfold K0
 have h1 : l.take (k + 1) = l.take k ++ [nth .wlk l k] := G6 .wlk h
 rw [h1, List.filter_append]
 simp [a6D, hc]
theorem inCell_no {m : PMap} {cell : Int} {l : List Wlk} {k : Nat} (h : k < l.length) (hc : ¬ l9 m (nth .wlk l k).pos = cell) : K0 m cell l (k + 1) = K0 m cell l k := by
 unfold K0
 have h1 : l.take (k + 1) = l.take k ++ [nth .wlk l k] := G6 .wlk h
 rw [h1, List.filter_append]
 simp [a6D, hc]
def X5 (m : PMap) (cell : Int) (l : List Wlk) : Cll := if o8 m = true ∧ 0 ≤ cell ∧ cell < m.cells ∧ z6 m l = true then ⟨cell, K0 m cell l l.length, 0, [[], []], [0, 0], [0, 0]⟩ else P7
def L3 (m : PMap) (cell : Int) (l : List Wlk) : Sto := ⟨0, X5 m cell l, []⟩
def a2E (m : PMap) : Arb := if o8 m = true then ⟨List.replicate m.cells.toNat (-1), List.replicate m.cells.toNat 0⟩ else ⟨[], []⟩
def Z6 (m : PMap) (w : Wlk) : Row := ⟨w.id, l9 m w.pos, false, ⟨0, 0, 0, 0, 0⟩, w.seq, w.last⟩
def a7z (m : PMap) (l : List Wlk) : List Row := if o8 m = true ∧ z6 m l = true then l.map (Z6 m) else []
def N3 (m : PMap) (l : List Wlk) (servers : Int) : Wld := ⟨m, List.replicate servers.toNat ⟨true, [], []⟩, (List.range m.cells.toNat).map fun (i : Nat) => L3 m (i : Int) l, a2E m, a7z m l, [], []⟩
def a4B (m : PMap) (l : List Wlk) (servers : Int) : Wld := if o8 m = true ∧ z6 m l = true ∧ 1 ≤ servers ∧ servers ≤ 3 then N3 m l servers else a0O
theorem b3b (l : List Wlk) : srt l ↔ l.Pairwise fun a b => a.id < b.id := by
 rw [List.pairwise_iff_getElem]
 constructor
 ·intro h i j hi hj hij
  have := h i j hij hj
  rwa [k8 .wlk l i hi, k8 .wlk l j hj] at this
 ·intro h i j hij hj
  have hi : i < l.length := by omega
  have := h i j hi hj hij
  rwa [k8 .wlk l i hi, k8 .wlk l j hj]
theorem b9s {m : PMap} {l : List Wlk} (h : z6 m l = true) : l.length ≤ 9 := b9D (a8Z h) fun i hi => by
 have := H5.1 (a6N h hi)
 exact ⟨this.1, this.2.1⟩
theorem b2B {m : PMap} {cell : Int} {l : List Wlk} (h1 : o8 m = true) (h2 : 0 ≤ cell) (h3 : cell < m.cells) (h4 : z6 m l = true) : r7 m (X5 m cell l) = true := by
 rw [X5, if_pos ⟨h1, h2, h3, h4⟩, C7]
 have hw := a0u.1 h4
 refine ⟨fun w hm => ?_, ?_, h1, h2, h3, Int.le_refl 0, by show (0 : Int) ≤ 900; decide, rfl, rfl, rfl, fun s hs => ?_⟩
 ·simp only [K0, List.take_length, List.mem_filter, a6D, decide_eq_true_eq] at hm
  exact ⟨hw.1 w hm.1, hm.2⟩
 ·simp only [K0, List.take_length]
  rw [b3b]
  exact ((b3b l).1 hw.2).filter _
 ·have hs2 : s = 0 ∨ s = 1 := by omega
  rcases hs2 with rfl | rfl <;> exact ⟨by simp [s5, nth, m4, h1], by show (0 : Int) ≤ 0; decide, by show (0 : Int) ≤ 5000; decide, fun _ => ⟨rfl, rfl⟩, fun p hp => by simp [nth] at hp⟩
theorem c1V {m : PMap} {cell : Int} {l : List Wlk} (h1 : o8 m = true) (h2 : 0 ≤ cell) (h3 : cell < m.cells) (h4 : z6 m l = true) : y4 m (L3 m cell l) = true := by
 rw [s8]
 exact ⟨by simp [L3], b2B h1 h2 h3 h4, by simp [L3], by simp [L3, S6]⟩
theorem gwyNew_ok {m : PMap} {l : List Wlk} (h1 : o8 m = true) (h4 : z6 m l = true) : z8 m (a7z m l) = true := by
 rw [a7z, if_pos ⟨h1, h4⟩, z8, Bool.and_eq_true]
 refine ⟨h1, ?_⟩
 rw [k9]
 intro i hi
 have hi : i < l.length := by simpa using hi
 have hw := a0u.1 h4
 have hn : ∀ j, j < l.length → nth .row (l.map (Z6 m)) j = Z6 m (nth .wlk l j) := fun j hj => by
  rw [k8 .row _ j (by simpa using hj), k8 .wlk l j hj]
  simp
 have ho := H5.1 (hw.1 _ (n6 .wlk hi))
 have hr : R9 m (Z6 m (nth .wlk l i)) = true := by
  obtain ⟨q1, q2, q3, q4⟩ := I9 ho.2.2.1
  have q5 := p5.1 q1
  have hp : 0 ≤ l9 m (nth .wlk l i).pos ∧ l9 m (nth .wlk l i).pos < m.cells := by
   rw [q4]
   exact ⟨Int.ediv_nonneg q2 (by omega), Int.ediv_lt_of_lt_mul (by omega) q3⟩
  simp only [R9, Z6, decide_eq_true_eq]
  exact ⟨ho.1, ho.2.1, hp.1, hp.2, ho.2.2.2.2.2.1, ho.2.2.2.2.2.2.1, ho.2.2.2.2.2.2.2.1, ho.2.2.2.2.2.2.2.2, fun _ => by decide, fun h => by cases h⟩
 rw [I5, hn i hi, hr, Bool.true_and]
 by_cases h0 : i = 0
 ·simp [h0]
 ·have hs := hw.2 (i - 1) i (by omega) hi
  rw [hn (i - 1) (by omega)]
  simp only [Z6]
  simp [hs]
theorem arbNew_ok {m : PMap} {v : Int} (h1 : o8 m = true) (h2 : 1 ≤ v) (h3 : v ≤ 3) : A4 m (a2E m) v = true := by
 have hm := p5.1 h1
 rw [a2E, if_pos h1, A4, Bool.and_eq_true]
 refine ⟨by simp [V7, h1, h2, h3]; omega, ?_⟩
 rw [k9]
 intro i hi
 have hi : i < m.cells.toNat := by simp only [List.length_replicate] at hi; exact hi
 have e1 : nth .int (List.replicate m.cells.toNat (-1 : Int)) i = (-1 : Int) := by rw [k8 .int _ i (by simpa using hi)]; simp
 have e2 : nth .int (List.replicate m.cells.toNat (0 : Int)) i = (0 : Int) := by rw [k8 .int _ i (by simpa using hi)]; simp
 simp only [a2M, e1, e2, decide_eq_true_eq]
 show (-1 : Int) ≤ -1 ∧ (-1 : Int) ≤ v - 1 ∧ (0 : Int) ≤ 0 ∧ (0 : Int) ≤ 900 ∧ True
 exact ⟨by omega, by omega, by omega, by omega, trivial⟩
theorem c2a {m : PMap} (h1 : o8 m = true) : y9 m ⟨true, [], []⟩ = true := by
 simp [y9, R7, B6, a4m, m4, h1]
theorem c1L {m : PMap} {l : List Wlk} {v : Int} (h1 : o8 m = true) (h4 : z6 m l = true) (h2 : 1 ≤ v) (h3 : v ≤ 3) : o6 (a4B m l v) = true := by
 rw [a4B, if_pos ⟨h1, h4, h2, h3⟩, m8]
 have hv : ((List.replicate v.toNat (⟨true, [], []⟩ : Srv)).length : Int) = v := by simp; omega
 have hm := p5.1 h1
 have hst : ∀ i, i < m.cells.toNat → nth .sto ((List.range m.cells.toNat).map fun (i : Nat) => L3 m (i : Int) l) i = L3 m (i : Int) l := fun i hi => by
  rw [k8 .sto _ i (by simpa using hi)]; simp
 have hbase : ∀ i : Nat, i < m.cells.toNat → (L3 m (i : Int) l).base.cell = (i : Int) := fun i hi => by
  simp only [L3]
  rw [X5, if_pos ⟨h1, by omega, by omega, h4⟩]
 simp only [N3]
 rw [hv]
 refine ⟨arbNew_ok h1 h2 h3, ?_, gwyNew_ok h1 h4, by simp, by simp, ?_, ?_, ?_, ?_⟩
 ·rw [y1, Bool.and_eq_true]
  refine ⟨by simp [h1]; omega, ?_⟩
  rw [k9]
  intro i hi
  have hi : i < m.cells.toNat := by simpa using hi
  rw [a1y, hst i hi, c1V h1 (by omega) (by omega) h4, hbase i hi]
  simp
 ·intro i hi
  have hi : i < m.cells.toNat := by simpa using hi
  rw [hst i hi]
  simp only [L3]
  rw [a2E, if_pos h1]
  have e2 : nth .int (List.replicate m.cells.toNat (0 : Int)) i = (0 : Int) := by rw [k8 .int _ i (by simpa using hi)]; simp
  simp only [e2]
  exact Int.le_refl 0
 ·intro s hs
  rw [List.mem_replicate] at hs
  rw [hs.2]
  exact ⟨c2a h1, fun h hh => by cases hh⟩
 ·intro x hx; cases hx
 ·intro n hn; cases hn
theorem tm {a n : Int} (ha : 0 ≤ a) (hn : 1 ≤ n) : 0 ≤ a.tmod n ∧ a.tmod n < n := by
 rw [Int.tmod_eq_emod_of_nonneg ha]
 exact ⟨Int.emod_nonneg _ (by omega), Int.emod_lt_of_pos _ (by omega)⟩
theorem td {a n : Int} (ha : 0 ≤ a) (hn : 1 ≤ n) : 0 ≤ a.tdiv n ∧ a.tdiv n ≤ a := by
 rw [Int.tdiv_eq_ediv_of_nonneg ha]
 exact ⟨Int.ediv_nonneg ha (by omega), Int.ediv_le_self n ha⟩
theorem xorw {a b : Int} (ha : 0 ≤ a) (ha2 : a < 9223372036854775808) (hb : 0 ≤ b) (hb2 : b < 9223372036854775808) : 0 ≤ IntKind.i64.wrap (((BitVec.ofInt IntKind.i64.bits a ^^^ BitVec.ofInt IntKind.i64.bits b).toNat : Nat) : Int) := by
 have h1 : ∀ x : Int, 0 ≤ x → x < 9223372036854775808 → (BitVec.ofInt IntKind.i64.bits x).toNat < 2 ^ 63 := fun x h0 h2 => by
  rw [BitVec.toNat_ofInt]
  have : IntKind.i64.bits = 64 := rfl
  rw [this]
  omega
 have h2 : (BitVec.ofInt IntKind.i64.bits a ^^^ BitVec.ofInt IntKind.i64.bits b).toNat < 2 ^ 63 := by
  rw [BitVec.toNat_xor]
  exact Nat.xor_lt_two_pow (h1 a ha ha2) (h1 b hb hb2)
 rw [b9 (by omega) (by omega)]
 omega
theorem okByte {l : List Int} (h : OkA (.list .byte fun _ => l)) : ∀ i, i < l.length → @LE.le Int _ 0 (nth .byte l i) ∧ @LE.le Int _ (nth .byte l i) 255 := by
 cases h with
 | list _ _ _ g =>
  intro i hi
  have := g i 0 _ hi rfl
  cases this with
  | int _ _ h1 h2 => exact ⟨h1, h2⟩
theorem pick_far {L p b1 b2 n : Int} (hL : 1 ≤ L) (hp0 : 0 ≤ p) (hp : p ≤ 1000000001000) (h1 : 0 ≤ b1 ∧ b1 ≤ 255) (h2 : 0 ≤ b2 ∧ b2 ≤ 255) (hn : 1 ≤ n) (x : Int)
  (hx : x = IntKind.i64.wrap (IntKind.i64.wrap (IntKind.i64.wrap (IntKind.i64.wrap (b1 * 131) + IntKind.i64.wrap (b2 * 1117)) + IntKind.i64.wrap (p * 29)) + IntKind.i64.wrap (IntKind.i64.wrap (p.tdiv L) * 53))) :
  0 ≤ (IntKind.i64.wrap (((BitVec.ofInt IntKind.i64.bits x ^^^ BitVec.ofInt IntKind.i64.bits (IntKind.i64.wrap (x.tdiv 64))).toNat : Nat) : Int)).tmod n ∧ (IntKind.i64.wrap (((BitVec.ofInt IntKind.i64.bits x ^^^ BitVec.ofInt IntKind.i64.bits (IntKind.i64.wrap (x.tdiv 64))).toNat : Nat) : Int)).tmod n < n := by
 have hd := td hp0 hL
 generalize hdd : p.tdiv L = d at *
 rw [b9 (n := b1 * 131) (by omega) (by omega), b9 (n := b2 * 1117) (by omega) (by omega), b9 (n := b1 * 131 + b2 * 1117) (by omega) (by omega), b9 (n := p * 29) (by omega) (by omega), b9 (n := d) (by omega) (by omega), b9 (n := d * 53) (by omega) (by omega),
  b9 (n := b1 * 131 + b2 * 1117 + p * 29) (by omega) (by omega), b9 (n := b1 * 131 + b2 * 1117 + p * 29 + d * 53) (by omega) (by omega)] at hx
 have hx0 : 0 ≤ x := by omega
 have hx1 : x < 9223372036854775808 := by omega
 have hd2 := td hx0 (show (1 : Int) ≤ 64 by omega)
 rw [b9 (n := x.tdiv 64) (by omega) (by omega)]
 exact tm (xorw hx0 hx1 hd2.1 (by omega)) hn
def tkP (m : PMap) (t : Arb) (h : Hld) (cell side : Int) (k : Nat) : List Msg := ((nth .pcls h.state.outs side.toNat).take k).map fun p => ⟨5, n8 t (b7 m cell side), b7 m cell side, 1 - side, 0, s6, p, F6⟩
def tkG (m : PMap) (t : Arb) (h : Hld) (cell side : Int) (k : Nat) : List Msg := ((m9 m h side).take k).map fun g => ⟨7, n8 t (b7 m cell side), b7 m cell side, 1 - side, 0, s6, u6, g⟩
def tkTo (m : PMap) (t : Arb) (h : Hld) (cell : Int) : Nat → List Msg
 | 0 => []
 | n + 1 => tkTo m t h cell n ++ A5 m t h cell n
theorem c1N (m : PMap) (t : Arb) (h : Hld) (cell : Int) : tkTo m t h cell 0 = [] := rfl
theorem c1O {m : PMap} {t : Arb} {h : Hld} {cell : Int} {n : Nat} (hs : b7 m cell n = -1 ∨ n8 t (b7 m cell n) = -1) : tkTo m t h cell (n + 1) = tkTo m t h cell n := by
 show tkTo m t h cell n ++ A5 m t h cell n = _
 have : A5 m t h cell n = [] := by
  unfold A5
  simp only
  rw [if_pos hs]
 rw [this, List.append_nil]
theorem tkTo_say {m : PMap} {t : Arb} {h : Hld} {cell : Int} {n : Nat} (h1 : ¬ b7 m cell n = -1) (h2 : ¬ n8 t (b7 m cell n) = -1) : tkTo m t h cell (n + 1) = tkTo m t h cell n ++ tkP m t h cell n 4 ++ tkG m t h cell n 4 := by
 show tkTo m t h cell n ++ A5 m t h cell n = _
 have : A5 m t h cell n = tkP m t h cell n 4 ++ tkG m t h cell n 4 := by
  unfold A5 tkP tkG
  simp only
  rw [if_neg (fun hh => hh.elim h1 h2)]
 rw [this, List.append_assoc]
theorem b4F {m : PMap} {s : Srv} {t : Arb} {cell : Int} (hh : v7 s cell = true) : tkTo m t (e9 s cell) cell 2 = B5 m s t cell := by
 unfold B5
 rw [if_pos hh]
 rfl
theorem tkP_zero (m : PMap) (t : Arb) (h : Hld) (cell side : Int) : tkP m t h cell side 0 = [] := by simp [tkP]
theorem tkG_zero (m : PMap) (t : Arb) (h : Hld) (cell side : Int) : tkG m t h cell side 0 = [] := by simp [tkG]
theorem b4G {m : PMap} {t : Arb} {h : Hld} {cell side : Int} {k : Nat} (hk : k < (nth .pcls h.state.outs side.toNat).length) : tkP m t h cell side (k + 1) = tkP m t h cell side k ++ [⟨5, n8 t (b7 m cell side), b7 m cell side, 1 - side, 0, s6, nth .pcl (nth .pcls h.state.outs side.toNat) k, F6⟩] := by
 unfold tkP
 exact X8 (t := .pcl) _ _ hk
theorem b4H {m : PMap} {t : Arb} {h : Hld} {cell side : Int} {k : Nat} (hk : k < (m9 m h side).length) : tkG m t h cell side (k + 1) = tkG m t h cell side k ++ [⟨7, n8 t (b7 m cell side), b7 m cell side, 1 - side, 0, s6, u6, nth .gst (m9 m h side) k⟩] := by
 unfold tkG
 exact X8 (t := .gst) _ _ hk
theorem tkP_end {m : PMap} {t : Arb} {h : Hld} {cell side : Int} {k : Nat} (h4 : k ≤ 4) (he : min 4 (nth .pcls h.state.outs side.toNat).length ≤ k) : tkP m t h cell side k = tkP m t h cell side 4 := by
 unfold tkP
 by_cases h5 : k = 4
 ·rw [h5]
 ·rw [List.take_of_length_le (by omega), List.take_of_length_le (by omega)]
theorem tkG_end {m : PMap} {t : Arb} {h : Hld} {cell side : Int} {k : Nat} (h4 : k ≤ 4) (he : min 4 (m9 m h side).length ≤ k) : tkG m t h cell side k = tkG m t h cell side 4 := by
 unfold tkG
 by_cases h5 : k = 4
 ·rw [h5]
 ·rw [List.take_of_length_le (by omega), List.take_of_length_le (by omega)]
theorem tkP_len (m : PMap) (t : Arb) (h : Hld) (cell side : Int) (k : Nat) : (tkP m t h cell side k).length ≤ k := by simp [tkP]; omega
theorem tkG_len (m : PMap) (t : Arb) (h : Hld) (cell side : Int) (k : Nat) : (tkG m t h cell side k).length ≤ k := by simp [tkG]; omega
theorem a8T (m : PMap) (t : Arb) (h : Hld) (cell : Int) : ∀ n, (tkTo m t h cell n).length ≤ 8 * n
 | 0 => by simp [tkTo]
 | n + 1 => by
  have ih := a8T m t h cell n
  show (tkTo m t h cell n ++ A5 m t h cell n).length ≤ _
  have : (A5 m t h cell n).length ≤ 8 := by
   unfold A5
   simp only
   split
   ·simp
   ·simp
    omega
  rw [List.length_append]
  omega
structure Said (m : PMap) (s : Srv) (t : Arb) (v cell : Int) (z : Msg) : Prop where
 ok : u0 m v z = true
 side : z.side = 0 ∨ z.side = 1
 at1 : z.cell = b7 m cell (1 - z.side)
 lo : 0 ≤ z.cell
 hi : z.cell < (t.servers.length : Int)
 dest : z.dest = nth .int t.servers z.cell.toNat
 kind : z.kind = 5 ∨ z.kind = 7
 num : z.kind = 5 → 0 ≤ z.pcl.n - (nth .int (e9 s cell).state.next (1 - z.side).toNat - (nth .pcls (e9 s cell).state.outs (1 - z.side).toNat).length) ∧ z.pcl.n - (nth .int (e9 s cell).state.next (1 - z.side).toNat - (nth .pcls (e9 s cell).state.outs (1 - z.side).toNat).length) < (nth .pcls (e9 s cell).state.outs (1 - z.side).toNat).length
 pcl : z.kind = 5 → nth .pcl (nth .pcls (e9 s cell).state.outs (1 - z.side).toNat) (z.pcl.n - (nth .int (e9 s cell).state.next (1 - z.side).toNat - (nth .pcls (e9 s cell).state.outs (1 - z.side).toNat).length)).toNat = z.pcl
 gst : z.kind = 7 → z.gst.count = (e9 s cell).count ∧ z.gst.src = cell
 bnd : 0 ≤ nth .int (e9 s cell).state.next (1 - z.side).toNat ∧ nth .int (e9 s cell).state.next (1 - z.side).toNat ≤ 5000 ∧ ((nth .pcls (e9 s cell).state.outs (1 - z.side).toNat).length : Int) ≤ nth .int (e9 s cell).state.next (1 - z.side).toNat ∧ (e9 s cell).state.outs.length = 2 ∧ (e9 s cell).state.next.length = 2
theorem tick_len {m : PMap} {s : Srv} {t : Arb} {cell : Int} : (B5 m s t cell).length ≤ 16 := by
 unfold B5
 split
 ·rename_i hh
  have := a8T m t (e9 s cell) cell 2
  rw [b4F hh] at this
  unfold B5 at this
  rw [if_pos hh] at this
  omega
 ·simp
end Go.Mo
