/-
  Plain laws for drawn worlds.
-/
import Derived.Test.YtkclfaldmghkeaaGreatM3
import Derived.Test.YtkclfaldmghkeaaGreatM2
import Derived.Test.YtkclfaldmghkeaaGreatS5
set_option linter.unusedVariables false
set_option linter.unusedSimpArgs false
namespace Go.Mo
open Go.Sx
theorem put_ok {m : PMap} {l : List Wlk} {w : Wlk} (h : y7 m l = true) (hw : O8 m w = true) : y7 m (I7 l w) = true := by
 rw [a0d] at h ⊢
 refine ⟨fun x hx => ?_, b9p h.2⟩
 rcases b2z hx with hx | rfl
 ·exact h.1 x hx
 ·exact hw
theorem c3P {m : PMap} {l : List Row} (h : y6 m l = true) : l.length ≤ 9 := by
 rw [y6, Bool.and_eq_true] at h
 have ha := (j9 _ _).1 h.2
 have hw : ∀ i, i < l.length → (i : Int) + 1 ≤ (nth .row l i).who := by
  intro i
  induction i with
  | zero =>
   intro hi
   have := ha 0 hi
   simp only [H7, R7, Bool.and_eq_true, decide_eq_true_eq] at this
   omega
  | succ i ih =>
   intro hi
   have h1 := ih (by omega)
   have := ha (i + 1) hi
   simp only [H7, Bool.and_eq_true, Bool.or_eq_true, decide_eq_true_eq, Nat.add_sub_cancel] at this
   omega
 by_cases h0 : l.length = 0
 ·omega
 ·have h1 := hw (l.length - 1) (by omega)
  have h2 := ha (l.length - 1) (by omega)
  simp only [H7, R7, Bool.and_eq_true, decide_eq_true_eq] at h2
  omega
def wP (w0 w : Wld) : Prop := (p9 w0 = true → p9 w = true) ∧ (w = w0 ∨ p9 w = true ∨ w = a0t)
theorem b8w (w : Wld) : wP w w := ⟨fun h => h, .inl rfl⟩
theorem b8v {w0 w : Wld} (e : Evt) (h : wP w0 w) : wP w0 (m5 w e) := by
 by_cases hw : p9 w = true
 ·have : m5 w e = u3 w e := by simp [m5, hw]
  rw [this]
  exact ⟨fun _ => (b8C hw).1, .inr (.inl (b8C hw).1)⟩
 ·have : m5 w e = a0t := by simp [m5, hw]
  rw [this]
  exact ⟨fun h0 => absurd (h.1 h0) hw, .inr (.inr rfl)⟩
theorem b7k {w : Wld} (h : p9 w = true) : w.rows.length ≤ 9 ∧ w.stores.length ≤ 4 ∧ 1 ≤ w.servers.length ∧ w.servers.length ≤ 3 := by
 obtain ⟨h1, h2, h3, h4⟩ := n7.1 h
 have := F3 h1
 exact ⟨c3P h3, a8v h2, by omega, by omega⟩
theorem wP_few {w0 w : Wld} (h : wP w0 w) (h1 : w0.rows.length ≤ 20) (h2 : w0.stores.length ≤ 20) : w.rows.length ≤ 20 ∧ w.stores.length ≤ 20 := by
 rcases h.2 with rfl | h | rfl
 ·exact ⟨h1, h2⟩
 ·have := b7k h
  omega
 ·exact ⟨by decide, by decide⟩
theorem b6I {w : Wld} (e : Evt) (h : p9 w = true) : p9 (m5 w e) = true := (b8v e (b8w w)).1 h
theorem new_ok {a b : Int} {k x c : Int} (h : n8 ⟨a, b⟩ = true) (h1 : 1 ≤ k) (h2 : k ≤ 5) (h3 : 0 ≤ x) (h4 : x < a * b) (h5 : 0 ≤ c) (h6 : c ≤ 99) : O8 ⟨a, b⟩ ⟨k, x, c, 0, 0⟩ = true := by
 rw [I8]
 have hp := r6.1 h
 refine ⟨by show (1 : Int) ≤ k; omega, by show k ≤ 9; omega, ?_, h5, h6, by show (0 : Int) ≤ 0; omega, by show (0 : Int) ≤ 900; omega, by show (0 : Int) ≤ 0; omega, by show (0 : Int) ≤ 9; omega⟩
 show l6 ⟨a, b⟩ x ≠ -1
 simp only [l6]
 rw [if_pos ⟨h, h3, h4⟩]
 have : 0 ≤ x / b := Int.ediv_nonneg h3 (by simp only at hp; omega)
 show x / b ≠ -1
 omega
theorem c8k {x : Int} (h1 : 0 ≤ x) (h2 : x < 6) : @LE.le Int _ 0 (nth .int [0, 3, 10, 40, 95, 99] x.toNat) ∧ @LE.le Int _ (nth .int [0, 3, 10, 40, 95, 99] x.toNat) 99 := by
 have : x = 0 ∨ x = 1 ∨ x = 2 ∨ x = 3 ∨ x = 4 ∨ x = 5 := by omega
 rcases this with rfl | rfl | rfl | rfl | rfl | rfl <;> decide
theorem c8p {x y : Int} (h1 : 0 ≤ x ∧ (1 ≤ (3 : Int) → x < 3)) (h2 : 0 ≤ y ∧ (1 ≤ (2 : Int) → y < 2)) : n8 ⟨IntKind.i64.wrap (2 + x), IntKind.i64.wrap (2 + y)⟩ = true := by
 rw [e8 (by omega) (by omega), e8 (by omega) (by omega), r6]
 show 2 ≤ 2 + x ∧ 2 + x ≤ 4 ∧ 2 ≤ 2 + y ∧ 2 + y ≤ 8
 omega
theorem c8n {a b k x y : Int} {l : List Wlk} (h : n8 ⟨a, b⟩ = true) (hl : y7 ⟨a, b⟩ l = true) (hk : 0 < k) (hk5 : k ≤ 5) (hx : 0 ≤ x ∧ (1 ≤ IntKind.i64.wrap (a * b) → x < IntKind.i64.wrap (a * b))) (hy : 0 ≤ y ∧ (1 ≤ (6 : Int) → y < 6)) :
  y7 ⟨a, b⟩ (I7 l ⟨k, x, nth .int [0, 3, 10, 40, 95, 99] y.toNat, 0, 0⟩) = true := by
 have hm : 4 ≤ a * b ∧ a * b ≤ 32 := a3w h
 rw [e8 (by omega) (by omega)] at hx
 have hc := c8k hy.1 (hy.2 (by omega))
 exact put_ok hl (new_ok h (by omega) hk5 hx.1 (hx.2 (by omega)) hc.1 hc.2)
def owAt (m : PMap) (l : List OW) (i : Nat) : Bool := O8 m (nth .ow l i).wlk && (decide (i = 0) || decide ((nth .ow l (i - 1)).wlk.id < (nth .ow l i).wlk.id))
def a8c (o : One) : Bool := decide (n8 o.map = true ∧ (o.ground.length : Int) = o.map.cells ∧ (o.air.length : Int) = o.map.cells)
def b4J (o : One) (i : Nat) : Bool := decide (0 ≤ nth .int o.ground i ∧ nth .int o.ground i ≤ 900 ∧ (nth .ints o.air i).length = 2 ∧ 0 ≤ nth .int (nth .ints o.air i) 0 ∧ nth .int (nth .ints o.air i) 0 ≤ 100000 ∧ 0 ≤ nth .int (nth .ints o.air i) 1 ∧ nth .int (nth .ints o.air i) 1 ≤ 100000)
def b7a (o : One) : Bool := l8 o.ground.length (b4J o)
def a8S (o : One) : Bool := a8c o && b7a o && l8 o.wlks.length (owAt o.map o.wlks)
theorem b4V {o : One} : a8c o = true ↔ n8 o.map = true ∧ (o.ground.length : Int) = o.map.cells ∧ (o.air.length : Int) = o.map.cells := by simp [a8c]
theorem c1A {o : One} : a8S o = true ↔ a8c o = true ∧ b7a o = true ∧ l8 o.wlks.length (owAt o.map o.wlks) = true := by simp [a8S, and_assoc]
def isOw (id : Int) (x : OW) : Bool := decide (x.wlk.id = id)
def m0 (l : List OW) (id : Int) : Int := idx (isOw id) l
theorem b1g (l : List OW) (id : Int) : -1 ≤ m0 l id ∧ m0 l id < l.length := by
 rcases C3 (isOw id) l with ⟨h, _⟩ | ⟨k, hk, h, _⟩
 ·unfold m0; rw [h]; omega
 ·unfold m0; rw [h]; omega
theorem b9t {l : List OW} {id : Int} (h : 0 ≤ m0 l id) : (nth .ow l (m0 l id).toNat).wlk.id = id := by
 rcases C3 (isOw id) l with ⟨h', _⟩ | ⟨k, hk, h', h2, _⟩
 ·unfold m0 at h; omega
 ·unfold m0; rw [h', Int.toNat_natCast, k9 .ow l k hk]
  simpa [isOw] using h2
structure OC where
 o : One
 code : Int
def oSet (o : One) (k : Nat) (x : OW) (g : List Int) (a : List (List Int)) : One := ⟨o.map, o.wlks.set k x, g, a⟩
def oFin (o : One) (k : Nat) (w : Wlk) (seq : Int) (here : Bool) (g : List Int) (a : List (List Int)) (code : Int) : OC := ⟨oSet o k ⟨⟨w.id, w.pos, w.l7, seq, code⟩, here⟩ g a, code⟩
def a3j (a : List (List Int)) (d s : Int) (n : Int) : List (List Int) := a.set d.toNat ((nth .ints a d.toNat).set s.toNat (nth .int (nth .ints a d.toNat) s.toNat + n))
def c4Q (o : One) (k : Nat) (w : Wlk) (r : Ord) : OC :=
 if l6 o.map (w.pos + (2 * r.dest - 1)) = -1 then oFin o k w r.seq true o.ground o.air 2
 else oFin o k ⟨w.id, w.pos + (2 * r.dest - 1), w.l7, w.seq, w.last⟩ r.seq (decide (l6 o.map (w.pos + (2 * r.dest - 1)) = l6 o.map w.pos)) o.ground o.air 1
def c4S (o : One) (k : Nat) (w : Wlk) (r : Ord) : OC :=
 let j := m0 o.wlks r.dest
 let v := nth .ow o.wlks j.toNat
 if ¬ (0 ≤ j ∧ v.here = true ∧ l6 o.map v.wlk.pos = l6 o.map w.pos) then oFin o k w r.seq true o.ground o.air 4
 else if w.l7 < r.n then oFin o k w r.seq true o.ground o.air 3
 else if 99 < v.wlk.l7 + r.n then oFin o k w r.seq true o.ground o.air 5
 else ⟨⟨o.map, (o.wlks.set k ⟨⟨w.id, w.pos, w.l7 - r.n, r.seq, 1⟩, true⟩).set j.toNat ⟨⟨v.wlk.id, v.wlk.pos, v.wlk.l7 + r.n, v.wlk.seq, v.wlk.last⟩, v.here⟩, o.ground, o.air⟩, 1⟩
def c4T (o : One) (k : Nat) (w : Wlk) (r : Ord) : OC :=
 let c := (l6 o.map w.pos).toNat
 if w.l7 < r.n then oFin o k w r.seq true o.ground o.air 3
 else if 900 < nth .int o.ground c + r.n then oFin o k w r.seq true o.ground o.air 5
 else oFin o k ⟨w.id, w.pos, w.l7 - r.n, w.seq, w.last⟩ r.seq true (o.ground.set c (nth .int o.ground c + r.n)) o.air 1
def c4R (o : One) (k : Nat) (w : Wlk) (r : Ord) : OC :=
 let c := (l6 o.map w.pos).toNat
 if nth .int o.ground c < r.n then oFin o k w r.seq true o.ground o.air 6
 else if 99 < w.l7 + r.n then oFin o k w r.seq true o.ground o.air 5
 else oFin o k ⟨w.id, w.pos, w.l7 + r.n, w.seq, w.last⟩ r.seq true (o.ground.set c (nth .int o.ground c - r.n)) o.air 1
def b7x (o : One) (k : Nat) (w : Wlk) (r : Ord) : OC :=
 let d := b6 o.map (l6 o.map w.pos) r.dest
 if H4 o.map w.pos r.dest = false then oFin o k w r.seq true o.ground o.air 7
 else if w.l7 < r.n then oFin o k w r.seq true o.ground o.air 3
 else if 100000 < nth .int (nth .ints o.air d.toNat) (1 - r.dest).toNat + r.n then oFin o k w r.seq true o.ground o.air 5
 else oFin o k ⟨w.id, w.pos, w.l7 - r.n, w.seq, w.last⟩ r.seq true o.ground (a3j o.air d (1 - r.dest) r.n) 1
def b9G (o : One) (k : Nat) (w : Wlk) (r : Ord) : OC :=
 if r.kind = 1 then c4Q o k w r
 else if r.kind = 2 then c4S o k w r
 else if r.kind = 3 then c4T o k w r
 else if r.kind = 4 then c4R o k w r
 else if r.kind = 5 then b7x o k w r
 else oFin o k w r.seq true o.ground o.air 1
def a5s (o : One) (r : Ord) : OC :=
 let k := m0 o.wlks r.who
 let x := nth .ow o.wlks k.toNat
 if ¬ (0 ≤ k ∧ x.here = true) then ⟨o, 9⟩
 else if r.seq < x.wlk.seq then ⟨o, 8⟩
 else if r.seq = x.wlk.seq then ⟨o, x.wlk.last⟩
 else b9G o k.toNat x.wlk r
def a8b (o : One) (id : Int) : One := if 0 ≤ m0 o.wlks id then ⟨o.map, o.wlks.set (m0 o.wlks id).toNat ⟨(nth .ow o.wlks (m0 o.wlks id).toNat).wlk, true⟩, o.ground, o.air⟩ else o
def a8d (o : One) (c s n : Int) : One :=
 if 0 ≤ c ∧ c < o.map.cells ∧ (s = 0 ∨ s = 1) ∧ 1 ≤ n ∧ n ≤ nth .int (nth .ints o.air c.toNat) s.toNat ∧ nth .int o.ground c.toNat + n ≤ 900 then
  ⟨o.map, o.wlks, o.ground.set c.toNat (nth .int o.ground c.toNat + n), o.air.set c.toNat ((nth .ints o.air c.toNat).set s.toNat (nth .int (nth .ints o.air c.toNat) s.toNat - n))⟩
 else o
def a8Q (l : List OW) : Nat → Int
 | 0 => 0
 | k + 1 => a8Q l k + (nth .ow l k).wlk.l7
def a9F (o : One) : Nat → Int
 | 0 => 0
 | k + 1 => a9F o k + (nth .int o.ground k + nth .int (nth .ints o.air k) 0 + nth .int (nth .ints o.air k) 1)
def a5t (o : One) : Int := if a8S o = true then a8Q o.wlks o.wlks.length + a9F o o.ground.length else 0
theorem b7f (l : List OW) : a8Q l 0 = 0 := rfl
theorem b7g (l : List OW) (k : Nat) : a8Q l (k + 1) = a8Q l k + (nth .ow l k).wlk.l7 := rfl
theorem b7S (o : One) : a9F o 0 = 0 := rfl
theorem b7T (o : One) (k : Nat) : a9F o (k + 1) = a9F o k + (nth .int o.ground k + nth .int (nth .ints o.air k) 0 + nth .int (nth .ints o.air k) 1) := rfl
theorem c3R {m : PMap} {l : List Row} (h : y6 m l = true) : ∀ j i, i < j → j < l.length → (nth .row l i).who < (nth .row l j).who := by
 rw [y6, Bool.and_eq_true] at h
 have ha := (j9 _ _).1 h.2
 intro j
 induction j with
 | zero => intro i hi; omega
 | succ j ih =>
  intro i hi hj
  have := ha (j + 1) hj
  simp only [H7, Bool.and_eq_true, Bool.or_eq_true, decide_eq_true_eq, Nat.add_sub_cancel] at this
  have h2 : (nth .row l j).who < (nth .row l (j + 1)).who := by omega
  by_cases hij : i = j
  ·subst hij; exact h2
  ·have := ih i (by omega) (by omega)
   omega
theorem b4N {m : PMap} {l : List Row} {who : Int} {k : Nat} (h : y6 m l = true) (hk : k < l.length) (hw : (nth .row l k).who = who) : k8 l who = k := by
 refine b6R ((j9 _ _).2 fun i hi => ?_) hk hw
 have := c3R h k i hi hk
 simp only [nwho, a5K, Bool.not_eq_true', decide_eq_false_iff_not]
 omega
def a3B (m : PMap) (s : Srv) (st : List Sto) (t : Arb) (v : Int) (x : Msg) : Prop := y3 m s = true ∧ x7 m st = true ∧ z5 m t v = true ∧ s9 m v x = true
theorem a7k {m : PMap} {s : Srv} {st : List Sto} {cell : Int} {r : Rec} (hs : HSort s.holds) :
  ((y8 m s st cell r).n = 1 ∧ (s6 m (b9 s cell) (nth .sto st cell.toNat) r).n = 1 ∧ y8 m s st cell r = ⟨⟨s.up, putH s.holds ⟨(b9 s cell).age, (b9 s cell).count + 1, (j7 m (b9 s cell).state r).c⟩, s.n0⟩, st.set cell.toNat ⟨(nth .sto st cell.toNat).age, (nth .sto st cell.toNat).base, (nth .sto st cell.toNat).recs ++ [r]⟩, 1, (j7 m (b9 s cell).state r).code⟩) ∨
  ((y8 m s st cell r).n = 2 ∧ (s6 m (b9 s cell) (nth .sto st cell.toNat) r).n = 2 ∧ y8 m s st cell r = ⟨⟨s.up, C5 s.holds cell, s.n0⟩, st, 2, 0⟩) ∨
  ((y8 m s st cell r).n ≠ 1 ∧ (y8 m s st cell r).n ≠ 2 ∧ (y8 m s st cell r).srv = s ∧ (y8 m s st cell r).stores = st) := by
 unfold y8
 simp only
 by_cases h1 : (s6 m (b9 s cell) (nth .sto st cell.toNat) r).n = 1
 ·obtain ⟨g1, g2, g3, g4, g5, g6, g7, g8, g9, g10, g11⟩ := a8m h1
  rw [if_pos h1]
  refine .inl ⟨rfl, h1, ?_⟩
  rw [g9, g10, g11, a2a hs]
 ·rw [if_neg h1]
  by_cases h2 : (s6 m (b9 s cell) (nth .sto st cell.toNat) r).n = 2
  ·rw [if_pos h2]
   exact .inr (.inl ⟨rfl, h2, rfl⟩)
  ·rw [if_neg h2]
   exact .inr (.inr ⟨h1, h2, rfl, rfl⟩)
theorem b7M {m : PMap} {s : Srv} {st : List Sto} {t : Arb} {v : Int} {x : Msg} (hv : a3B m s st t v x) (hl : ¬ (n5 m s st t x).out.length = 0) (hk : (nth .msg (n5 m s st t x).out 0).kind = 3) :
  s.up = true ∧ ¬ x.dest = -1 ∧ x.kind = 2 ∧ v5 s x.cell = true ∧ o9 (b9 s x.cell).state.wlks x.ord.who = true ∧
  (((B3 (b9 s x.cell).state.wlks x.ord.who).seq = x.ord.seq ∧ n5 m s st t x = ⟨s, st, [a0F x (B3 (b9 s x.cell).state.wlks x.ord.who).last]⟩) ∨
   ((B3 (b9 s x.cell).state.wlks x.ord.who).seq < x.ord.seq ∧ (s6 m (b9 s x.cell) (m9 st x) (n3 x)).n = 1 ∧ n5 m s st t x = ⟨⟨s.up, putH s.holds ⟨(b9 s x.cell).age, (b9 s x.cell).count + 1, (j7 m (b9 s x.cell).state (n3 x)).c⟩, s.n0⟩,
    st.set x.cell.toNat ⟨(m9 st x).age, (m9 st x).base, (m9 st x).recs ++ [n3 x]⟩, [a0F x (j7 m (b9 s x.cell).state (n3 x)).code]⟩)) := by
 obtain ⟨_, _, hall, hsort⟩ := A6.1 hv.1
 have hkk := a1r hv.2.2.2
 by_cases hu0 : s.up = false ∨ x.dest = -1
 ·unfold n5 at hl
  rw [if_pos hu0] at hl
  exact absurd rfl hl
 have hu : s.up = true := by
  cases h : s.up with
  | true => rfl
  | false => exact absurd (.inl h) hu0
 have hd : ¬ x.dest = -1 := fun h => hu0 (.inr h)
 have e0 : n5 m s st t x = if x.kind = 1 then I0 m s st x
  else if x.kind = 7 then ⟨⟨s.up, s.holds, a0X s.n0 x.gst⟩, st, []⟩
  else if v5 s x.cell = false then ⟨s, st, []⟩
  else if x.kind = 2 then R4 m s st x
  else if x.kind = 5 then R3 m s st t x
  else ⟨(y8 m s st x.cell ⟨3, s5, x.side, u5, x.n⟩).srv, (y8 m s st x.cell ⟨3, s5, x.side, u5, x.n⟩).stores, []⟩ := by
  unfold n5
  rw [if_neg hu0]
 rw [e0] at hl hk ⊢
 by_cases k1 : x.kind = 1
 ·rw [if_pos k1] at hl
  exfalso
  unfold I0 at hl
  split at hl
  ·exact hl rfl
  ·split at hl <;> exact hl rfl
 rw [if_neg k1] at hl hk ⊢
 by_cases k7 : x.kind = 7
 ·rw [if_pos k7] at hl
  exact absurd rfl hl
 rw [if_neg k7] at hl hk ⊢
 by_cases kh : v5 s x.cell = false
 ·rw [if_pos kh] at hl
  exact absurd rfl hl
 rw [if_neg kh] at hl hk ⊢
 have hh : v5 s x.cell = true := by simpa using kh
 by_cases k2 : x.kind = 2
 ·rw [if_pos k2] at hl hk ⊢
  have er : n3 x = ⟨1, x.ord, 0, u5, 0⟩ := by rw [n3, if_pos k2]
  unfold R4 at hl hk ⊢
  simp only at hl hk ⊢
  by_cases hw : o9 (b9 s x.cell).state.wlks x.ord.who = false
  ·rw [if_pos hw] at hk
   exact absurd (show (4 : Int) = 3 from hk) (by decide)
  rw [if_neg hw] at hl hk ⊢
  refine ⟨hu, hd, k2, hh, by simpa using hw, ?_⟩
  by_cases q1 : x.ord.seq < (B3 (b9 s x.cell).state.wlks x.ord.who).seq
  ·rw [if_pos q1] at hl
   exact absurd rfl hl
  rw [if_neg q1] at hl hk ⊢
  by_cases q2 : x.ord.seq = (B3 (b9 s x.cell).state.wlks x.ord.who).seq
  ·rw [if_pos q2] at hl hk ⊢
   simp only at hl hk
   by_cases q3 : (B3 (b9 s x.cell).state.wlks x.ord.who).last = 0
   ·rw [if_pos q3] at hl
    exact absurd rfl hl
   ·rw [if_neg q3]
    exact .inl ⟨q2.symm, rfl⟩
  ·rw [if_neg q2] at hl hk ⊢
   rw [← er] at hl hk ⊢
   right
   refine ⟨by omega, ?_⟩
   rcases a7k (m := m) (s := s) (st := st) (cell := x.cell) (r := n3 x) hsort with ⟨w1, w2, w3⟩ | ⟨w1, _, w3⟩ | ⟨w1, w2, _⟩
   ·refine ⟨w2, ?_⟩
    rw [w3]
    simp [m9]
   ·rw [w1] at hl
    exact absurd rfl hl
   ·simp only [if_neg w1] at hl
    exact absurd rfl hl
 ·exfalso
  rw [if_neg k2] at hl hk
  by_cases k5 : x.kind = 5
  ·rw [if_pos k5] at hl hk
   unfold R3 at hl hk
   simp only at hl hk
   have hgot : ∀ n, ¬ (O4 m t x n).length = 0 → ¬ (nth .msg (O4 m t x n) 0).kind = 3 := by
    intro n h1 h2
    unfold O4 at h1 h2
    split at h1
    ·exact h1 rfl
    ·rename_i hq
     rw [if_neg hq] at h2
     exact absurd (show (6 : Int) = 3 from h2) (by decide)
   split at hl
   ·rename_i hq
    rw [if_pos hq] at hk
    exact hgot _ hl hk
   ·rename_i hq
    rw [if_neg hq] at hk
    simp only at hl hk
    split at hl
    ·rename_i hq2
     rw [if_pos hq2] at hk
     exact hgot _ hl hk
    ·exact hl rfl
  ·rw [if_neg k5] at hl
   exact hl rfl
def a1w (t : Arb) (cell server : Int) : Msg := ⟨1, server, cell, 0, nth .int t.ages cell.toNat, s5, u5, E8⟩
inductive StepC (w : Wld) : Wld → Prop
 | same : StepC w w
 | grant (cell server : Int) (hg : (p6 w.table w.servers.length cell server).ok = true) : StepC w (u4 ⟨w.map, w.servers, w.stores, (p6 w.table w.servers.length cell server).t, w.rows, w.net, w.notes⟩ [a1w (p6 w.table w.servers.length cell server).t cell server])
 | ask (who what dest n : Int) : StepC w ⟨w.map, w.servers, w.stores, w.table, (L8 w.rows who what dest n).b, w.net, w.notes⟩
 | say (who : Int) (hs : (Q2 w.rows w.table who).ok = true) : StepC w (u4 w [(Q2 w.rows w.table who).x])
 | gate (i : Nat) (hi : i < w.net.length) (hd : (nth .msg w.net i).dest = -1) : StepC w (a2l (wCut w i) (nth .msg w.net i))
 | hear (i : Nat) (hi : i < w.net.length) (hd : ¬ (nth .msg w.net i).dest = -1) : StepC w (a1c (wCut w i) (nth .msg w.net i))
 | lose (i : Nat) (hi : i < w.net.length) : StepC w (wCut w i)
 | twice (i : Nat) (hi : i < w.net.length) : StepC w (u4 w [nth .msg w.net i])
 | tick (i : Nat) (hi : i < w.servers.length) (cell : Int) : StepC w (u4 w (A8 w.map (nth .srv w.servers i) w.table cell))
 | fall (i : Nat) (hi : i < w.servers.length) : StepC w ⟨w.map, w.servers.set i ⟨false, [], []⟩, w.stores, w.table, w.rows, w.net, w.notes⟩
 | rise (i : Nat) (hi : i < w.servers.length) (hu : (nth .srv w.servers i).up = false) : StepC w ⟨w.map, w.servers.set i ⟨true, [], []⟩, w.stores, w.table, w.rows, w.net, w.notes⟩
theorem a4e (w : Wld) (e : Evt) : StepC w (u3 w e) := by
 unfold u3
 by_cases k1 : e.kind = 1
 ·rw [if_pos k1]
  simp only
  split
  ·rename_i hg
   exact .grant e.pos e.dest hg
  ·exact .same
 rw [if_neg k1]
 by_cases k2 : e.kind = 2
 ·rw [if_pos k2]
  exact .ask _ _ _ _
 rw [if_neg k2]
 by_cases k3 : e.kind = 3
 ·rw [if_pos k3]
  split
  ·rename_i hs
   exact .say _ hs
  ·exact .same
 rw [if_neg k3]
 split
 ·split
  ·rename_i hp
   have hi : e.pos.toNat < w.net.length := by omega
   split
   ·unfold Q8
    simp only
    split
    ·rename_i hd
     exact .gate _ hi hd
    ·rename_i hd
     exact .hear _ hi hd
   ·split
    ·exact .lose _ hi
    ·exact .twice _ hi
  ·exact .same
 ·split
  ·split
   ·rename_i hp
    have hi : e.pos.toNat < w.servers.length := by omega
    split
    ·exact .tick _ hi _
    ·split
     ·exact .fall _ hi
     ·split
      ·rename_i hu
       exact .rise _ hi hu
      ·exact .same
   ·exact .same
  ·exact .same
theorem C7 {w : Wld} {l : List Msg} {x : Msg} (h : x ∈ (u4 w l).net) : x ∈ w.net ∨ x ∈ l := by
 simp only [u4, List.mem_append] at h
 exact h.imp id List.mem_of_mem_take
theorem a3e {w : Wld} {i : Nat} {x : Msg} (h : x ∈ (wCut w i).net) : x ∈ w.net := List.mem_of_mem_eraseIdx h
theorem a4U {l : List Row} {t : Arb} {who : Int} (hs : (Q2 l t who).ok = true) : (Q2 l t who).x.kind = 2 := by
 unfold Q2 at hs ⊢
 split at hs
 ·rename_i hc
  rw [if_pos hc]
 ·cases hs
theorem a6o {m : PMap} {s : Srv} {t : Arb} {cell : Int} {z : Msg} (h : z ∈ A8 m s t cell) : z.kind = 5 ∨ z.kind = 7 := by
 have side : ∀ sd, z ∈ z6 m t (b9 s cell) cell sd → z.kind = 5 ∨ z.kind = 7 := fun sd hz => by
  unfold z6 at hz
  simp only at hz
  split at hz
  ·cases hz
  ·rcases List.mem_append.1 hz with hz | hz
   ·obtain ⟨_, _, rfl⟩ := List.mem_map.1 hz
    exact .inl rfl
   ·obtain ⟨_, _, rfl⟩ := List.mem_map.1 hz
    exact .inr rfl
 unfold A8 at h
 split at h
 ·rcases List.mem_append.1 h with h | h
  ·exact side _ h
  ·exact side _ h
 ·cases h
theorem N8 {m : PMap} {c : Cll} {l l' : List Rec} : ∀ {k : Nat}, k ≤ l.length → r7 m c (l ++ l') k = r7 m c l k
 | 0, _ => rfl
 | k + 1, h => by
  have ih := N8 (m := m) (c := c) (l := l) (l' := l') (k := k) (by omega)
  have hn : nth .rcd (l ++ l') k = nth .rcd l k := by simp [nth, List.getD, List.getElem?_append_left (show k < l.length by omega)]
  simp only [r7, ih, hn]
theorem a3o {m : PMap} {s : Sto} (h : x8 m s = true) : p5 m s = r7 m s.base s.recs s.recs.length := a3F (u0.1 h).2.2.2
def stAt (st : List Sto) (c : Int) : Sto := nth .sto st c.toNat
structure HoldInv (m : PMap) (st : List Sto) (h : Hld) : Prop where
 age : h.age ≤ (stAt st h.state.cell).age
 zero : 0 ≤ h.count
 count : h.count ≤ (stAt st h.state.cell).recs.length
 state : h.state = r7 m (stAt st h.state.cell).base (stAt st h.state.cell).recs h.count.toNat
 all : h.age = (stAt st h.state.cell).age → h.count = (stAt st h.state.cell).recs.length
inductive Tok (w : Wld) (i : Nat) (c n : Int) : Prop
 | hold (hi : i < w.servers.length) (h : Hld) (hm : h ∈ (nth .srv w.servers i).holds) (hc : h.state.cell = c) (hn : h.age = n)
 | word (x : Msg) (hx : x ∈ w.net) (hk : x.kind = 1) (hd : x.dest = (i : Int)) (hc : x.cell = c) (hn : x.n = n)
 | table (h0 : 0 ≤ c) (hc : c.toNat < w.table.servers.length) (hs : @Eq Int (nth .int w.table.servers c.toNat) (i : Int)) (hn : @Eq Int (nth .int w.table.ages c.toNat) n)
structure Fence (w : Wld) : Prop where
 hold : ∀ i, i < w.servers.length → ∀ h ∈ (nth .srv w.servers i).holds, HoldInv w.map w.stores h
 one : ∀ i j c n, Tok w i c n → Tok w j c n → i = j
theorem J9 {w w' : Wld} (hf : Fence w) (hm : w'.map = w.map) (hs : w'.stores = w.stores) (ht : w'.table = w.table)
  (hh : ∀ i, i < w'.servers.length → ∀ h ∈ (nth .srv w'.servers i).holds, i < w.servers.length ∧ h ∈ (nth .srv w.servers i).holds)
  (hn : ∀ x ∈ w'.net, x.kind = 1 → x ∈ w.net) : Fence w' := by
 have tok : ∀ i c n, Tok w' i c n → Tok w i c n := fun i c n h => by
  cases h with
  | hold hi h hm hc hn => exact .hold (hh i hi h hm).1 h (hh i hi h hm).2 hc hn
  | word x hx hk hd hc hn' => exact .word x (hn x hx hk) hk hd hc hn'
  | table h0 hc hs hn => rw [ht] at hc hs hn; exact .table h0 hc hs hn
 refine ⟨fun i hi h hm' => ?_, fun i j c n h1 h2 => hf.one i j c n (tok _ _ _ h1) (tok _ _ _ h2)⟩
 rw [hm, hs]
 exact hf.hold i (hh i hi h hm').1 h (hh i hi h hm').2
theorem c3o {w : Wld} (hok : p9 w = true) {i : Nat} {c n : Int} (h : Tok w i c n) : n ≤ nth .int w.table.ages c.toNat := by
 obtain ⟨h1, h2, h3, h4, h5, h6, h7, h8, h9⟩ := n7.1 hok
 cases h with
 | hold hi h hm hc hn => subst hc hn; exact (h7 _ (r8 .srv hi)).2 h hm
 | word x hx hk hd hc hn => subst hc hn; exact (h8 x hx).2 hk
 | table h0 hc hs hn => exact Int.le_of_eq hn.symm
theorem b6b {w : Wld} (hok : p9 w = true) (hf : Fence w) {cell server : Int} (hg : (p6 w.table w.servers.length cell server).ok = true) :
  Fence (u4 ⟨w.map, w.servers, w.stores, (p6 w.table w.servers.length cell server).t, w.rows, w.net, w.notes⟩ [a1w (p6 w.table w.servers.length cell server).t cell server]) := by
 obtain ⟨h1, _⟩ := n7.1 hok
 obtain ⟨g1, c1, c2, c3, c4, ge, b3, b4⟩ := a5Q h1 hg
 obtain ⟨l1, l2, _⟩ := F3 h1
 have hcl : cell.toNat < w.table.ages.length := by omega
 have hcs : cell.toNat < w.table.servers.length := by omega
 have tok : ∀ i c n, Tok (u4 ⟨w.map, w.servers, w.stores, (p6 w.table w.servers.length cell server).t, w.rows, w.net, w.notes⟩ [a1w (p6 w.table w.servers.length cell server).t cell server]) i c n →
   Tok w i c n ∨ (c = cell ∧ @Eq Int n (nth .int w.table.ages cell.toNat + 1) ∧ server = (i : Int)) := fun i c n h => by
  cases h with
  | hold hi h hm hc hn => exact .inl (.hold hi h hm hc hn)
  | word x hx hk hd hc hn =>
   rcases C7 hx with hx | hx
   ·exact .inl (.word x hx hk hd hc hn)
   ·right
    simp only [List.mem_singleton] at hx
    subst hx
    refine ⟨hc.symm, ?_, hd⟩
    rw [← hn]
    simp only [a1w]
    rw [ge]
    exact l9 .int hcl
  | table h0 hc hs hn =>
   simp only [u4] at hc hs hn
   rw [ge] at hc hs hn
   simp only [List.length_set] at hc
   rw [H0 .int hcs] at hs
   rw [H0 .int hcl] at hn
   by_cases he : c.toNat = cell.toNat
   ·rw [if_pos he] at hs hn
    exact .inr ⟨by omega, hn.symm, hs⟩
   ·rw [if_neg he] at hs hn
    exact .inl (.table h0 hc hs hn)
 refine ⟨fun i hi h hm => hf.hold i hi h hm, fun i j c n h1 h2 => ?_⟩
 rcases tok _ _ _ h1 with t1 | ⟨p1, p2, p3⟩
 ·rcases tok _ _ _ h2 with t2 | ⟨q1, q2, q3⟩
  ·exact hf.one i j c n t1 t2
  ·have := c3o hok t1
   rw [q1] at this
   exfalso
   rw [q2] at this
   generalize (nth .int w.table.ages cell.toNat : Int) = a at *
   omega
 ·rcases tok _ _ _ h2 with t2 | ⟨q1, q2, q3⟩
  ·have := c3o hok t2
   rw [p1] at this
   exfalso
   rw [p2] at this
   generalize (nth .int w.table.ages cell.toNat : Int) = a at *
   omega
  ·omega
theorem Y8 {l : List Srv} {i j : Nat} {s : Srv} (hi : i < l.length) : nth .srv (l.set i s) j = if j = i then s else nth .srv l j := H0 .srv hi
theorem G8 {l : List Sto} {c c' : Int} {s : Sto} (hc : c.toNat < l.length) : stAt (l.set c.toNat s) c' = if c'.toNat = c.toNat then s else stAt l c' := by
 unfold stAt
 exact H0 .sto hc
theorem b7Z {w : Wld} (hok : p9 w = true) (hf : Fence w) {k : Nat} (hk : k < w.net.length) (hd : ¬ (nth .msg w.net k).dest = -1) : Fence (a1c (wCut w k) (nth .msg w.net k)) := by
 obtain ⟨h1, h2, h3, h4, h5, h6, h7, h8, h9⟩ := n7.1 hok
 have hxm := r8 .msg hk
 generalize hx : nth .msg w.net k = x at *
 have hx1 := (h8 x hxm).1
 have hdd : 0 ≤ x.dest ∧ x.dest < w.servers.length := by
  rcases a1r hx1 with ⟨_, g1, g2⟩ | ⟨_, g⟩
  ·exact ⟨g1, g2⟩
  ·exact absurd g hd
 have hdn : x.dest.toNat < w.servers.length := by omega
 obtain ⟨o1, _⟩ := h7 _ (r8 .srv hdn)
 have he := a6W (t := w.table) o1 h2 hx1
 have hout : ∀ z ∈ (n5 w.map (nth .srv w.servers x.dest.toNat) w.stores w.table x).out, z.kind ≠ 1 := fun z hz => by
  have := a5p hz
  omega
 have hW : a1c (wCut w k) x = u4 ⟨w.map, w.servers.set x.dest.toNat (n5 w.map (nth .srv w.servers x.dest.toNat) w.stores w.table x).srv, (n5 w.map (nth .srv w.servers x.dest.toNat) w.stores w.table x).stores, w.table, w.rows, w.net.eraseIdx k, w.notes⟩ (n5 w.map (nth .srv w.servers x.dest.toNat) w.stores w.table x).out := rfl
 rw [hW]
 generalize hX : n5 w.map (nth .srv w.servers x.dest.toNat) w.stores w.table x = X at *
 obtain ⟨s', st', out⟩ := X
 simp only at he hout ⊢
 have hcs := a1I h2 hx1
 obtain ⟨_, _, hall, hsort⟩ := A6.1 o1
 have word : ∀ z ∈ (u4 ⟨w.map, w.servers.set x.dest.toNat s', st', w.table, w.rows, w.net.eraseIdx k, w.notes⟩ out).net, z.kind = 1 → z ∈ w.net := fun z hz hk1 => by
  rcases C7 hz with hz | hz
  ·exact List.mem_of_mem_eraseIdx hz
  ·exact absurd hk1 (hout z hz)
 have quiet : st' = w.stores → (∀ h ∈ s'.holds, h ∈ (nth .srv w.servers x.dest.toNat).holds) → Fence (u4 ⟨w.map, w.servers.set x.dest.toNat s', st', w.table, w.rows, w.net.eraseIdx k, w.notes⟩ out) := fun e1 e2 => by
  refine J9 hf rfl e1 rfl (fun i hi h hm => ?_) word
  have hi' : i < w.servers.length := by simpa [u4] using hi
  refine ⟨hi', ?_⟩
  simp only [u4] at hm
  rw [Y8 hdn] at hm
  split at hm
  ·rename_i hij
   rw [hij]
   exact e2 h hm
  ·exact hm
 cases he with
 | same => exact quiet rfl fun h hm => hm
 | ghost hu hk7 => exact quiet rfl fun h hm => hm
 | lost hu hkk hh ha => exact quiet rfl fun h hm => (b3x.1 hm).1
 | grant hu hk1 hn ha =>
  have htx : Tok w x.dest.toNat x.cell x.n := .word x hxm hk1 (by omega) rfl rfl
  have hcell : (p5 w.map (m9 w.stores x)).cell = x.cell := by rw [a0f, hcs.2.2.2]
  have tok : ∀ i c n, Tok (u4 ⟨w.map, w.servers.set x.dest.toNat ⟨(nth .srv w.servers x.dest.toNat).up, putH (nth .srv w.servers x.dest.toNat).holds ⟨x.n, (m9 w.stores x).recs.length, p5 w.map (m9 w.stores x)⟩, (nth .srv w.servers x.dest.toNat).n0⟩, w.stores.set x.cell.toNat ⟨x.n, (m9 w.stores x).base, (m9 w.stores x).recs⟩, w.table, w.rows, w.net.eraseIdx k, w.notes⟩ out) i c n → Tok w i c n := fun i c n h => by
   cases h with
   | hold hi h hm hc hn =>
    have hi' : i < w.servers.length := by simpa [u4] using hi
    simp only [u4] at hm
    rw [Y8 hdn] at hm
    split at hm
    ·rename_i hij
     rcases P2 hsort hm with rfl | ⟨hm, _⟩
     ·rw [hij, ← hc, ← hn]
      simp only
      rw [hcell]
      exact htx
     ·exact .hold hi' h (by rw [hij]; exact hm) hc hn
    ·exact .hold hi' h hm hc hn
   | word z hz hk hd hc hn => exact .word z (word z hz hk) hk hd hc hn
   | table h0 hc hs hn => exact .table h0 hc hs hn
  refine ⟨fun i hi h hm => ?_, fun i j c n t1 t2 => hf.one i j c n (tok _ _ _ t1) (tok _ _ _ t2)⟩
  have hi' : i < w.servers.length := by simpa [u4] using hi
  have old : h ∈ (nth .srv w.servers i).holds → (h.state.cell = x.cell → h.age < x.n) → HoldInv w.map (w.stores.set x.cell.toNat ⟨x.n, (m9 w.stores x).base, (m9 w.stores x).recs⟩) h := fun hm hlt => by
   have hI := hf.hold i hi' h hm
   have hcp := (n6 (y5.1 ((A6.1 (h7 _ (r8 .srv hi')).1).2.2.1 h hm)).2.2)
   by_cases hcx : h.state.cell.toNat = x.cell.toNat
   ·have hcx' : h.state.cell = x.cell := by omega
    have hS : stAt (w.stores.set x.cell.toNat ⟨x.n, (m9 w.stores x).base, (m9 w.stores x).recs⟩) h.state.cell = ⟨x.n, (m9 w.stores x).base, (m9 w.stores x).recs⟩ := by rw [G8 hcs.2.1, if_pos hcx]
    have hO : stAt w.stores h.state.cell = m9 w.stores x := by rw [hcx']; rfl
    refine ⟨?_, hI.zero, ?_, ?_, ?_⟩
    ·rw [hS]; exact Int.le_of_lt (hlt hcx')
    ·rw [hS, ← hO]; exact hI.count
    ·rw [hS, ← hO]; exact hI.state
    ·rw [hS]; exact fun he => absurd he (Int.ne_of_lt (hlt hcx'))
   ·have hS : stAt (w.stores.set x.cell.toNat ⟨x.n, (m9 w.stores x).base, (m9 w.stores x).recs⟩) h.state.cell = stAt w.stores h.state.cell := by rw [G8 hcs.2.1, if_neg hcx]
    exact ⟨by rw [hS]; exact hI.age, hI.zero, by rw [hS]; exact hI.count, by rw [hS]; exact hI.state, by rw [hS]; exact hI.all⟩
  simp only [u4] at hm ⊢
  rw [Y8 hdn] at hm
  split at hm
  ·rename_i hij
   rcases P2 hsort hm with rfl | ⟨hm, hne⟩
   ·have hS : stAt (w.stores.set x.cell.toNat ⟨x.n, (m9 w.stores x).base, (m9 w.stores x).recs⟩) (p5 w.map (m9 w.stores x)).cell = ⟨x.n, (m9 w.stores x).base, (m9 w.stores x).recs⟩ := by rw [hcell, G8 hcs.2.1, if_pos rfl]
    refine ⟨by rw [hS]; exact Int.le_refl _, by simp only; omega, by rw [hS]; exact Int.le_refl _, ?_, by rw [hS]; exact fun _ => rfl⟩
    rw [hS]
    simp only [Int.toNat_natCast]
    exact a3o hcs.2.2.1
   ·refine old (by rw [hij]; exact hm) fun he => absurd ?_ hne
    rw [he, hcell]
  ·rename_i hij
   refine old hm fun he => ?_
   have hI := hf.hold i hi' h hm
   have hO : stAt w.stores h.state.cell = m9 w.stores x := by rw [he]; rfl
   have hle := hI.age
   rw [hO] at hle
   rcases Int.lt_or_eq_of_le (Int.le_trans hle ha) with h0 | h0
   ·exact h0
   ·exact absurd (hf.one i x.dest.toNat x.cell x.n (.hold hi' h hm he h0) htx) hij
 | write hu hkk hh ha hc hl hr ha1 ha2 hff hp =>
  obtain ⟨hmem, hcc⟩ := D7 hh
  have hIH := hf.hold _ hdn _ hmem
  have htx : Tok w x.dest.toNat x.cell (b9 (nth .srv w.servers x.dest.toNat) x.cell).age := .hold hdn _ hmem hcc rfl
  have hcell : (j7 w.map (b9 (nth .srv w.servers x.dest.toNat) x.cell).state (n3 x)).c.cell = x.cell := by rw [V8, hcc]
  have hOH : stAt w.stores (b9 (nth .srv w.servers x.dest.toNat) x.cell).state.cell = m9 w.stores x := by rw [hcc]; rfl
  generalize hH : b9 (nth .srv w.servers x.dest.toNat) x.cell = H at *
  have tok : ∀ i c n, Tok (u4 ⟨w.map, w.servers.set x.dest.toNat ⟨(nth .srv w.servers x.dest.toNat).up, putH (nth .srv w.servers x.dest.toNat).holds ⟨H.age, H.count + 1, (j7 w.map H.state (n3 x)).c⟩, (nth .srv w.servers x.dest.toNat).n0⟩, w.stores.set x.cell.toNat ⟨(m9 w.stores x).age, (m9 w.stores x).base, (m9 w.stores x).recs ++ [n3 x]⟩, w.table, w.rows, w.net.eraseIdx k, w.notes⟩ out) i c n → Tok w i c n := fun i c n h => by
   cases h with
   | hold hi h hm hc hn =>
    have hi' : i < w.servers.length := by simpa [u4] using hi
    simp only [u4] at hm
    rw [Y8 hdn] at hm
    split at hm
    ·rename_i hij
     rcases P2 hsort hm with rfl | ⟨hm, _⟩
     ·rw [hij, ← hc, ← hn]
      simp only
      rw [hcell]
      exact htx
     ·exact .hold hi' h (by rw [hij]; exact hm) hc hn
    ·exact .hold hi' h hm hc hn
   | word z hz hk hd hc hn => exact .word z (word z hz hk) hk hd hc hn
   | table h0 hc hs hn => exact .table h0 hc hs hn
  refine ⟨fun i hi h hm => ?_, fun i j c n t1 t2 => hf.one i j c n (tok _ _ _ t1) (tok _ _ _ t2)⟩
  have hi' : i < w.servers.length := by simpa [u4] using hi
  have old : h ∈ (nth .srv w.servers i).holds → (h.state.cell = x.cell → h.age ≠ (m9 w.stores x).age) → HoldInv w.map (w.stores.set x.cell.toNat ⟨(m9 w.stores x).age, (m9 w.stores x).base, (m9 w.stores x).recs ++ [n3 x]⟩) h := fun hm hlt => by
   have hI := hf.hold i hi' h hm
   have hcp := (n6 (y5.1 ((A6.1 (h7 _ (r8 .srv hi')).1).2.2.1 h hm)).2.2)
   by_cases hcx : h.state.cell.toNat = x.cell.toNat
   ·have hcx' : h.state.cell = x.cell := by omega
    have hS : stAt (w.stores.set x.cell.toNat ⟨(m9 w.stores x).age, (m9 w.stores x).base, (m9 w.stores x).recs ++ [n3 x]⟩) h.state.cell = ⟨(m9 w.stores x).age, (m9 w.stores x).base, (m9 w.stores x).recs ++ [n3 x]⟩ := by rw [G8 hcs.2.1, if_pos hcx]
    have hO : stAt w.stores h.state.cell = m9 w.stores x := by rw [hcx']; rfl
    have hcnt := hI.count
    have hstt := hI.state
    have hage := hI.age
    rw [hO] at hcnt hstt hage
    refine ⟨?_, hI.zero, ?_, ?_, ?_⟩
    ·rw [hS]; exact hage
    ·rw [hS]; simp only [List.length_append, List.length_singleton]; omega
    ·rw [hS]
     simp only
     rw [N8 (by have := hI.zero; omega)]
     exact hstt
    ·rw [hS]; exact fun he => absurd he (hlt hcx')
   ·have hS : stAt (w.stores.set x.cell.toNat ⟨(m9 w.stores x).age, (m9 w.stores x).base, (m9 w.stores x).recs ++ [n3 x]⟩) h.state.cell = stAt w.stores h.state.cell := by rw [G8 hcs.2.1, if_neg hcx]
    exact ⟨by rw [hS]; exact hI.age, hI.zero, by rw [hS]; exact hI.count, by rw [hS]; exact hI.state, by rw [hS]; exact hI.all⟩
  simp only [u4] at hm ⊢
  rw [Y8 hdn] at hm
  split at hm
  ·rename_i hij
   rcases P2 hsort hm with rfl | ⟨hm, hne⟩
   ·have hS : stAt (w.stores.set x.cell.toNat ⟨(m9 w.stores x).age, (m9 w.stores x).base, (m9 w.stores x).recs ++ [n3 x]⟩) (j7 w.map H.state (n3 x)).c.cell = ⟨(m9 w.stores x).age, (m9 w.stores x).base, (m9 w.stores x).recs ++ [n3 x]⟩ := by rw [hcell, G8 hcs.2.1, if_pos rfl]
    have hstt := hIH.state
    rw [hOH, hc] at hstt
    refine ⟨by rw [hS]; exact Int.le_of_eq ha, by have := hIH.zero; simp only; omega, by rw [hS]; simp only [List.length_append, List.length_singleton]; omega, ?_, by rw [hS]; simp only [List.length_append, List.length_singleton]; omega⟩
    rw [hS]
    simp only
    have e1 : (H.count + 1).toNat = (m9 w.stores x).recs.length + 1 := by omega
    rw [e1]
    show _ = (j7 w.map (r7 w.map (m9 w.stores x).base ((m9 w.stores x).recs ++ [n3 x]) (m9 w.stores x).recs.length) (nth .rcd ((m9 w.stores x).recs ++ [n3 x]) (m9 w.stores x).recs.length)).c
    rw [N8 (Nat.le_refl _), a5A .rcd]
    simp only [Int.toNat_natCast] at hstt
    rw [← hstt]
   ·refine old (by rw [hij]; exact hm) fun he => absurd ?_ hne
    rw [he, hcell]
  ·rename_i hij
   refine old hm fun he h0 => ?_
   rw [← ha] at h0
   exact absurd (hf.one i x.dest.toNat x.cell H.age (.hold hi' h hm he h0) htx) hij
theorem a9N {w w' : Wld} (hok : p9 w = true) (hf : Fence w) (hs : StepC w w') : Fence w' := by
 have emp : ∀ (i : Nat) (u : Bool), i < w.servers.length → Fence ⟨w.map, w.servers.set i ⟨u, [], []⟩, w.stores, w.table, w.rows, w.net, w.notes⟩ := fun i u hi => by
  refine J9 hf rfl rfl rfl (fun j hj h hm => ?_) (fun x hx _ => hx)
  simp only [List.length_set] at hj
  refine ⟨hj, ?_⟩
  simp only at hm
  rw [Y8 hi] at hm
  split at hm
  ·cases hm
  ·exact hm
 cases hs with
 | same => exact hf
 | grant cell server hg => exact b6b hok hf hg
 | ask => exact J9 hf rfl rfl rfl (fun i hi h hm => ⟨hi, hm⟩) (fun x hx _ => hx)
 | say who hs =>
  refine J9 hf rfl rfl rfl (fun i hi h hm => ⟨hi, hm⟩) (fun x hx hk => ?_)
  rcases C7 hx with hx | hx
  ·exact hx
  ·simp only [List.mem_singleton] at hx
   subst hx
   rw [a4U hs] at hk
   cases hk
 | gate i hi hd => exact J9 hf rfl rfl rfl (fun i hi h hm => ⟨hi, hm⟩) (fun x hx _ => a3e (i := i) hx)
 | hear i hi hd => exact b7Z hok hf hi hd
 | lose i hi => exact J9 hf rfl rfl rfl (fun i hi h hm => ⟨hi, hm⟩) (fun x hx _ => a3e hx)
 | twice i hi =>
  refine J9 hf rfl rfl rfl (fun i hi h hm => ⟨hi, hm⟩) (fun x hx hk => ?_)
  rcases C7 hx with hx | hx
  ·exact hx
  ·simp only [List.mem_singleton] at hx
   subst hx
   exact r8 .msg hi
 | tick i hi cell =>
  refine J9 hf rfl rfl rfl (fun i hi h hm => ⟨hi, hm⟩) (fun x hx hk => ?_)
  rcases C7 hx with hx | hx
  ·exact hx
  ·have := a6o hx
   omega
 | fall i hi => exact emp i false hi
 | rise i hi hu => exact emp i true hi
structure Grow (m : PMap) (st st' : List Sto) : Prop where
 len : st'.length = st.length
 base : ∀ c : Int, (stAt st' c).base = (stAt st c).base
 recs : ∀ c : Int, ∃ l, (stAt st' c).recs = (stAt st c).recs ++ l
theorem Grow.refl (m : PMap) (st : List Sto) : Grow m st st := ⟨rfl, fun _ => rfl, fun _ => ⟨[], by simp⟩⟩
theorem Grow.fold {m : PMap} {st st' : List Sto} (h : Grow m st st') (c : Int) {k : Nat} (hk : k ≤ (stAt st c).recs.length) : r7 m (stAt st' c).base (stAt st' c).recs k = r7 m (stAt st c).base (stAt st c).recs k := by
 obtain ⟨l, hl⟩ := h.recs c
 rw [h.base, hl, N8 hk]
theorem Grow.le {m : PMap} {st st' : List Sto} (h : Grow m st st') (c : Int) : (stAt st c).recs.length ≤ (stAt st' c).recs.length := by
 obtain ⟨l, hl⟩ := h.recs c
 rw [hl, List.length_append]
 omega
theorem b5S {m : PMap} {s s' : Srv} {st st' : List Sto} {v : Int} {x : Msg} (hst : x7 m st = true) (hx : s9 m v x = true) (he : Eff m s st x s' st') : Grow m st st' := by
 have hc := a1I hst hx
 cases he with
 | same => exact Grow.refl _ _
 | ghost => exact Grow.refl _ _
 | lost => exact Grow.refl _ _
 | grant hu hk hn ha =>
  refine ⟨by simp, fun c => ?_, fun c => ⟨[], ?_⟩⟩
  ·rw [G8 hc.2.1]
   split
   ·rename_i h
    unfold m9 stAt
    rw [h]
   ·rfl
  ·rw [G8 hc.2.1]
   split
   ·rename_i h
    unfold m9 stAt
    rw [h]
    simp
   ·simp
 | write hu hk hh ha hcn hl hr h1 h2 hf hp =>
  refine ⟨by simp, fun c => ?_, fun c => ?_⟩
  ·rw [G8 hc.2.1]
   split
   ·rename_i h
    unfold m9 stAt
    rw [h]
   ·rfl
  ·rw [G8 hc.2.1]
   split
   ·rename_i h
    refine ⟨[n3 x], ?_⟩
    unfold m9 stAt
    rw [h]
   ·exact ⟨[], by simp⟩
structure Heard (w : Wld) (k : Nat) (x : Msg) (X : SH) : Prop where
 mem : x ∈ w.net
 ok : s9 w.map w.servers.length x = true
 dest : 0 ≤ x.dest
 lt : x.dest.toNat < w.servers.length
 srv : y3 w.map (nth .srv w.servers x.dest.toNat) = true
 stos : x7 w.map w.stores = true
 eff : Eff w.map (nth .srv w.servers x.dest.toNat) w.stores x X.srv X.stores
 is : X = n5 w.map (nth .srv w.servers x.dest.toNat) w.stores w.table x
 arb : z5 w.map w.table w.servers.length = true
theorem heard {w : Wld} (hok : p9 w = true) {k : Nat} (hk : k < w.net.length) (hd : ¬ (nth .msg w.net k).dest = -1) : ∃ X, Heard w k (nth .msg w.net k) X ∧
  a1c (wCut w k) (nth .msg w.net k) = u4 ⟨w.map, w.servers.set (nth .msg w.net k).dest.toNat X.srv, X.stores, w.table, w.rows, w.net.eraseIdx k, w.notes⟩ X.out := by
 obtain ⟨h1, h2, h3, h4, h5, h6, h7, h8, h9⟩ := n7.1 hok
 have hxm := r8 .msg hk
 have hx1 := (h8 _ hxm).1
 have hdd : 0 ≤ (nth .msg w.net k).dest ∧ (nth .msg w.net k).dest < w.servers.length := by
  rcases a1r hx1 with ⟨_, g1, g2⟩ | ⟨_, g⟩
  ·exact ⟨g1, g2⟩
  ·exact absurd g hd
 have hdn : (nth .msg w.net k).dest.toNat < w.servers.length := by omega
 obtain ⟨o1, _⟩ := h7 _ (r8 .srv hdn)
 exact ⟨n5 w.map (nth .srv w.servers (nth .msg w.net k).dest.toNat) w.stores w.table (nth .msg w.net k), ⟨hxm, hx1, hdd.1, hdn, o1, h2, a6W o1 h2 hx1, rfl, h1⟩, rfl⟩
theorem c1b {w w' : Wld} (hok : p9 w = true) (hs : StepC w w') : w'.map = w.map ∧ Grow w.map w.stores w'.stores := by
 cases hs with
 | hear i hi hd =>
  obtain ⟨X, hX, e⟩ := heard hok hi hd
  rw [e]
  exact ⟨rfl, b5S hX.stos hX.ok hX.eff⟩
 | _ => exact ⟨rfl, Grow.refl _ _⟩
theorem c5f {m : PMap} {l : List Wlk} (h : y7 m l = true) {w : Wlk} (hw : w ∈ l) : o9 l w.id = true ∧ B3 l w.id = w := by
 have hs := a8x h
 obtain ⟨i, hi, e⟩ := K7 .wlk hw
 have hp : j4 l w.id = (i : Int) := by
  rcases C3 (isId w.id) l with ⟨_, hn⟩ | ⟨k, hk, hk1, hk2, hk3⟩
  ·have := hn w hw
   simp [isId] at this
  ·unfold j4
   rw [hk1]
   have hkid : (nth .wlk l k).id = w.id := by
    rw [k9 .wlk l k hk]
    simpa [isId] using hk2
   have : k = i := by
    rcases Nat.lt_trichotomy k i with h0 | h0 | h0
    ·have := hs k i h0 hi
     rw [e] at this
     omega
    ·exact h0
    ·have := hs i k h0 hk
     rw [e] at this
     omega
   rw [this]
 constructor
 ·simp only [o9, decide_eq_true_eq, hp]
  omega
 ·rw [B3, if_pos (by rw [hp]; omega), hp, Int.toNat_natCast]
  exact e
structure GhOk (m : PMap) (st : List Sto) (g : Gst) : Prop where
 zero : 0 ≤ g.count
 count : g.count ≤ (stAt st g.src).recs.length
 mem : g.wlk ∈ (r7 m (stAt st g.src).base (stAt st g.src).recs g.count.toNat).wlks
theorem GhOk.grow {m : PMap} {st st' : List Sto} {g : Gst} (h : GhOk m st g) (hg : Grow m st st') : GhOk m st' g :=
 ⟨h.zero, by have := hg.le g.src; have := h.count; omega, by rw [hg.fold g.src (by have := h.count; have := h.zero; omega)]; exact h.mem⟩
structure Shown (w : Wld) : Prop where
 srv : ∀ i, i < w.servers.length → ∀ g ∈ (nth .srv w.servers i).n0, GhOk w.map w.stores g
 net : ∀ x ∈ w.net, x.kind = 7 → GhOk w.map w.stores x.gst
theorem c2C {m : PMap} {h : Hld} {sd : Int} {g : Gst} (hg : g ∈ n0 m h sd) : g.src = h.state.cell ∧ g.count = h.count ∧ g.wlk ∈ h.state.wlks := by
 unfold n0 ghTo flt at hg
 obtain ⟨v, hv, rfl⟩ := List.mem_map.1 hg
 exact ⟨rfl, rfl, List.mem_of_mem_take (List.mem_filter.1 hv).1⟩
theorem b6C {m : PMap} {s : Srv} {t : Arb} {cell : Int} {z : Msg} (h : z ∈ A8 m s t cell) (hk : z.kind = 7) : ∃ g ∈ s.holds, z.gst.src = g.state.cell ∧ z.gst.count = g.count ∧ z.gst.wlk ∈ g.state.wlks := by
 unfold A8 at h
 split at h
 ·rename_i hh
  have hm := (D7 hh).1
  have side : ∀ sd, z ∈ z6 m t (b9 s cell) cell sd → ∃ g ∈ s.holds, z.gst.src = g.state.cell ∧ z.gst.count = g.count ∧ z.gst.wlk ∈ g.state.wlks := fun sd hz => by
   unfold z6 at hz
   simp only at hz
   split at hz
   ·cases hz
   ·rcases List.mem_append.1 hz with hz | hz
    ·obtain ⟨_, _, rfl⟩ := List.mem_map.1 hz
     cases hk
    ·obtain ⟨g, hg, rfl⟩ := List.mem_map.1 hz
     exact ⟨_, hm, c2C (List.mem_of_mem_take hg)⟩
  rcases List.mem_append.1 h with h | h
  ·exact side _ h
  ·exact side _ h
 ·cases h
theorem b6L {w w' : Wld} (hok : p9 w = true) (hf : Fence w) (hg : Shown w) (hs : StepC w w') : Shown w' := by
 obtain ⟨h1, h2, h3, h4, h5, h6, h7, h8, h9⟩ := n7.1 hok
 have emp : ∀ (i : Nat) (u : Bool), i < w.servers.length → Shown ⟨w.map, w.servers.set i ⟨u, [], []⟩, w.stores, w.table, w.rows, w.net, w.notes⟩ := fun i u hi => by
  refine ⟨fun j hj g hm => ?_, hg.net⟩
  simp only [List.length_set] at hj
  simp only at hm
  rw [Y8 hi] at hm
  split at hm
  ·cases hm
  ·exact hg.srv j hj g hm
 cases hs with
 | same => exact hg
 | grant cell server hgr =>
  refine ⟨hg.srv, fun x hx hk => ?_⟩
  rcases C7 hx with hx | hx
  ·exact hg.net x hx hk
  ·simp only [List.mem_singleton] at hx
   subst hx
   cases hk
 | ask => exact ⟨hg.srv, hg.net⟩
 | say who hs =>
  refine ⟨hg.srv, fun x hx hk => ?_⟩
  rcases C7 hx with hx | hx
  ·exact hg.net x hx hk
  ·simp only [List.mem_singleton] at hx
   subst hx
   rw [a4U hs] at hk
   cases hk
 | gate i hi hd => exact ⟨hg.srv, fun x hx hk => hg.net x (a3e (i := i) hx) hk⟩
 | hear i hi hd =>
  obtain ⟨X, hX, e⟩ := heard hok hi hd
  rw [e]
  have hgr := b5S hX.stos hX.ok hX.eff
  have hgs := (A6.1 hX.srv).1
  have hsort : GSort (nth .srv w.servers (nth .msg w.net i).dest.toNat).n0 := (a2b.1 hgs).2.2.2
  have hin : ∀ g ∈ X.srv.n0, g ∈ (nth .srv w.servers (nth .msg w.net i).dest.toNat).n0 ∨ ((nth .msg w.net i).kind = 7 ∧ g = (nth .msg w.net i).gst) := fun g hgm => by
   have he := hX.eff
   generalize X.srv = s' at *
   generalize X.stores = st' at *
   cases he with
   | same => exact .inl hgm
   | ghost hu hk =>
    simp only at hgm
    rw [a4v hsort] at hgm
    rcases a5d hgm with h | h
    ·exact .inr ⟨hk, h⟩
    ·exact .inl h
   | grant => exact .inl hgm
   | lost => exact .inl hgm
   | write => exact .inl hgm
  refine ⟨fun j hj g hm => ?_, fun x hx hk => ?_⟩
  ·have hj' : j < w.servers.length := by simpa [u4] using hj
   simp only [u4] at hm ⊢
   rw [Y8 hX.lt] at hm
   split at hm
   ·rcases hin g hm with h | ⟨hk, rfl⟩
    ·exact (hg.srv _ hX.lt g h).grow hgr
    ·exact (hg.net _ hX.mem hk).grow hgr
   ·exact (hg.srv j hj' g hm).grow hgr
  ·rcases C7 hx with hx | hx
   ·exact (hg.net x (List.mem_of_mem_eraseIdx hx) hk).grow hgr
   ·rw [hX.is] at hx
    have := a5p hx
    omega
 | lose i hi => exact ⟨hg.srv, fun x hx hk => hg.net x (a3e hx) hk⟩
 | twice i hi =>
  refine ⟨hg.srv, fun x hx hk => ?_⟩
  rcases C7 hx with hx | hx
  ·exact hg.net x hx hk
  ·simp only [List.mem_singleton] at hx
   subst hx
   exact hg.net _ (r8 .msg hi) hk
 | tick i hi cell =>
  refine ⟨hg.srv, fun x hx hk => ?_⟩
  rcases C7 hx with hx | hx
  ·exact hg.net x hx hk
  ·obtain ⟨g, hgm, e1, e2, e3⟩ := b6C hx hk
   have hI := hf.hold i hi g hgm
   exact ⟨by rw [e2]; exact hI.zero, by rw [e1, e2]; exact hI.count, by rw [e1, e2]; have e4 := hI.state; show _ ∈ (r7 w.map (stAt w.stores g.state.cell).base (stAt w.stores g.state.cell).recs g.count.toNat).wlks; rw [← e4]; exact e3⟩
 | fall i hi => exact emp i false hi
 | rise i hi hu => exact emp i true hi
end Go.Mo
