/-
  Plain laws for drawn worlds.
-/
import Derived.Test.YtkclfaldmghkeaaGreatM3
import Derived.Test.YtkclfaldmghkeaaGreatM2
import Derived.Test.YtkclfaldmghkeaaGreatS5
set_option linter.unusedVariables false
set_option linter.unusedSimpArgs false
namespace Go.Mo
open Go.Sx
theorem put_ok {m : PMap} {l : List Wlk} {w : Wlk} (h : z6 m l = true) (hw : P8 m w = true) : z6 m (J5 l w) = true := by
 rw [a0u] at h ⊢
 refine ⟨fun x hx => ?_, c0m h.2⟩
 rcases b3m hx with hx | rfl
 ·exact h.1 x hx
 ·exact hw
theorem rows_few {m : PMap} {l : List Row} (h : z8 m l = true) : l.length ≤ 9 := by
 rw [z8, Bool.and_eq_true] at h
 have ha := (k9 _ _).1 h.2
 have hw : ∀ i, i < l.length → (i : Int) + 1 ≤ (nth .row l i).who := by
  intro i
  induction i with
  | zero =>
   intro hi
   have := ha 0 hi
   simp only [I5, R9, Bool.and_eq_true, decide_eq_true_eq] at this
   omega
  | succ i ih =>
   intro hi
   have h1 := ih (by omega)
   have := ha (i + 1) hi
   simp only [I5, Bool.and_eq_true, Bool.or_eq_true, decide_eq_true_eq, Nat.add_sub_cancel] at this
   omega
 by_cases h0 : l.length = 0
 ·omega
 ·have h1 := hw (l.length - 1) (by omega)
  have h2 := ha (l.length - 1) (by omega)
  simp only [I5, R9, Bool.and_eq_true, decide_eq_true_eq] at h2
  omega
def wP (w0 w : Wld) : Prop := (o6 w0 = true → o6 w = true) ∧ (w = w0 ∨ o6 w = true ∨ w = a0O)
theorem b9u (w : Wld) : wP w w := ⟨fun h => h, .inl rfl⟩
theorem b9t {w0 w : Wld} (e : Evt) (h : wP w0 w) : wP w0 (m0 w e) := by
 by_cases hw : o6 w = true
 ·have : m0 w e = u4 w e := by simp [m0, hw]
  rw [this]
  exact ⟨fun _ => (b2Y hw).1, .inr (.inl (b2Y hw).1)⟩
 ·have : m0 w e = a0O := by simp [m0, hw]
  rw [this]
  exact ⟨fun h0 => absurd (h.1 h0) hw, .inr (.inr rfl)⟩
theorem b3B {w : Wld} (h : o6 w = true) : w.rows.length ≤ 9 ∧ w.stores.length ≤ 4 ∧ 1 ≤ w.servers.length ∧ w.servers.length ≤ 3 := by
 obtain ⟨h1, h2, h3, h4⟩ := m8.1 h
 have := E6 h1
 exact ⟨rows_few h3, a8X h2, by omega, by omega⟩
theorem wP_few {w0 w : Wld} (h : wP w0 w) (h1 : w0.rows.length ≤ 20) (h2 : w0.stores.length ≤ 20) : w.rows.length ≤ 20 ∧ w.stores.length ≤ 20 := by
 rcases h.2 with rfl | h | rfl
 ·exact ⟨h1, h2⟩
 ·have := b3B h
  omega
 ·exact ⟨by decide, by decide⟩
theorem b7B {w : Wld} (e : Evt) (h : o6 w = true) : o6 (m0 w e) = true := (b9t e (b9u w)).1 h
theorem new_ok {a b : Int} {k x c : Int} (h : o8 ⟨a, b⟩ = true) (h1 : 1 ≤ k) (h2 : k ≤ 5) (h3 : 0 ≤ x) (h4 : x < a * b) (h5 : 0 ≤ c) (h6 : c ≤ 99) : P8 ⟨a, b⟩ ⟨k, x, c, 0, 0⟩ = true := by
 rw [H5]
 have hp := p5.1 h
 refine ⟨by show (1 : Int) ≤ k; omega, by show k ≤ 9; omega, ?_, h5, h6, by show (0 : Int) ≤ 0; omega, by show (0 : Int) ≤ 900; omega, by show (0 : Int) ≤ 0; omega, by show (0 : Int) ≤ 9; omega⟩
 show l9 ⟨a, b⟩ x ≠ -1
 simp only [l9]
 rw [if_pos ⟨h, h3, h4⟩]
 have : 0 ≤ x / b := Int.ediv_nonneg h3 (by simp only at hp; omega)
 show x / b ≠ -1
 omega
theorem coin_in {x : Int} (h1 : 0 ≤ x) (h2 : x < 6) : @LE.le Int _ 0 (nth .int [0, 3, 10, 40, 95, 99] x.toNat) ∧ @LE.le Int _ (nth .int [0, 3, 10, 40, 95, 99] x.toNat) 99 := by
 have : x = 0 ∨ x = 1 ∨ x = 2 ∨ x = 3 ∨ x = 4 ∨ x = 5 := by omega
 rcases this with rfl | rfl | rfl | rfl | rfl | rfl <;> decide
theorem beg_map {x y : Int} (h1 : 0 ≤ x ∧ (1 ≤ (3 : Int) → x < 3)) (h2 : 0 ≤ y ∧ (1 ≤ (2 : Int) → y < 2)) : o8 ⟨IntKind.i64.wrap (2 + x), IntKind.i64.wrap (2 + y)⟩ = true := by
 rw [b9 (by omega) (by omega), b9 (by omega) (by omega), p5]
 show 2 ≤ 2 + x ∧ 2 + x ≤ 4 ∧ 2 ≤ 2 + y ∧ 2 + y ≤ 8
 omega
theorem beg_put {a b k x y : Int} {l : List Wlk} (h : o8 ⟨a, b⟩ = true) (hl : z6 ⟨a, b⟩ l = true) (hk : 0 < k) (hk5 : k ≤ 5) (hx : 0 ≤ x ∧ (1 ≤ IntKind.i64.wrap (a * b) → x < IntKind.i64.wrap (a * b))) (hy : 0 ≤ y ∧ (1 ≤ (6 : Int) → y < 6)) :
  z6 ⟨a, b⟩ (J5 l ⟨k, x, nth .int [0, 3, 10, 40, 95, 99] y.toNat, 0, 0⟩) = true := by
 have hm : 4 ≤ a * b ∧ a * b ≤ 32 := a3X h
 rw [b9 (by omega) (by omega)] at hx
 have hc := coin_in hy.1 (hy.2 (by omega))
 exact put_ok hl (new_ok h (by omega) hk5 hx.1 (hx.2 (by omega)) hc.1 hc.2)
def owAt (m : PMap) (l : List OW) (i : Nat) : Bool := P8 m (nth .ow l i).wlk && (decide (i = 0) || decide ((nth .ow l (i - 1)).wlk.id < (nth .ow l i).wlk.id))
def a8D (o : One) : Bool := decide (o8 o.map = true ∧ (o.ground.length : Int) = o.map.cells ∧ (o.air.length : Int) = o.map.cells)
def b5A (o : One) (i : Nat) : Bool := decide (0 ≤ nth .int o.ground i ∧ nth .int o.ground i ≤ 900 ∧ (nth .ints o.air i).length = 2 ∧ 0 ≤ nth .int (nth .ints o.air i) 0 ∧ nth .int (nth .ints o.air i) 0 ≤ 100000 ∧ 0 ≤ nth .int (nth .ints o.air i) 1 ∧ nth .int (nth .ints o.air i) 1 ≤ 100000)
def b7T (o : One) : Bool := m4 o.ground.length (b5A o)
def a9v (o : One) : Bool := a8D o && b7T o && m4 o.wlks.length (owAt o.map o.wlks)
theorem b5M {o : One} : a8D o = true ↔ o8 o.map = true ∧ (o.ground.length : Int) = o.map.cells ∧ (o.air.length : Int) = o.map.cells := by simp [a8D]
theorem c2y {o : One} : a9v o = true ↔ a8D o = true ∧ b7T o = true ∧ m4 o.wlks.length (owAt o.map o.wlks) = true := by simp [a9v, and_assoc]
def isOw (id : Int) (x : OW) : Bool := decide (x.wlk.id = id)
def m6 (l : List OW) (id : Int) : Int := idx (isOw id) l
structure OC where
 o : One
 code : Int
def oSet (o : One) (k : Nat) (x : OW) (g : List Int) (a : List (List Int)) : One := ⟨o.map, o.wlks.set k x, g, a⟩
def oFin (o : One) (k : Nat) (w : Wlk) (seq : Int) (here : Bool) (g : List Int) (a : List (List Int)) (code : Int) : OC := ⟨oSet o k ⟨⟨w.id, w.pos, w.l7, seq, code⟩, here⟩ g a, code⟩
def a3I (a : List (List Int)) (d s : Int) (n : Int) : List (List Int) := a.set d.toNat ((nth .ints a d.toNat).set s.toNat (nth .int (nth .ints a d.toNat) s.toNat + n))
def oStep (o : One) (k : Nat) (w : Wlk) (r : Ord) : OC :=
 if l9 o.map (w.pos + (2 * r.dest - 1)) = -1 then oFin o k w r.seq true o.ground o.air 2
 else oFin o k ⟨w.id, w.pos + (2 * r.dest - 1), w.l7, w.seq, w.last⟩ r.seq (decide (l9 o.map (w.pos + (2 * r.dest - 1)) = l9 o.map w.pos)) o.ground o.air 1
def oGive (o : One) (k : Nat) (w : Wlk) (r : Ord) : OC :=
 let j := m6 o.wlks r.dest
 let v := nth .ow o.wlks j.toNat
 if ¬ (0 ≤ j ∧ v.here = true ∧ l9 o.map v.wlk.pos = l9 o.map w.pos) then oFin o k w r.seq true o.ground o.air 4
 else if w.l7 < r.n then oFin o k w r.seq true o.ground o.air 3
 else if 99 < v.wlk.l7 + r.n then oFin o k w r.seq true o.ground o.air 5
 else ⟨⟨o.map, (o.wlks.set k ⟨⟨w.id, w.pos, w.l7 - r.n, r.seq, 1⟩, true⟩).set j.toNat ⟨⟨v.wlk.id, v.wlk.pos, v.wlk.l7 + r.n, v.wlk.seq, v.wlk.last⟩, v.here⟩, o.ground, o.air⟩, 1⟩
def oDrop (o : One) (k : Nat) (w : Wlk) (r : Ord) : OC :=
 let c := (l9 o.map w.pos).toNat
 if w.l7 < r.n then oFin o k w r.seq true o.ground o.air 3
 else if 900 < nth .int o.ground c + r.n then oFin o k w r.seq true o.ground o.air 5
 else oFin o k ⟨w.id, w.pos, w.l7 - r.n, w.seq, w.last⟩ r.seq true (o.ground.set c (nth .int o.ground c + r.n)) o.air 1
def oPick (o : One) (k : Nat) (w : Wlk) (r : Ord) : OC :=
 let c := (l9 o.map w.pos).toNat
 if nth .int o.ground c < r.n then oFin o k w r.seq true o.ground o.air 6
 else if 99 < w.l7 + r.n then oFin o k w r.seq true o.ground o.air 5
 else oFin o k ⟨w.id, w.pos, w.l7 + r.n, w.seq, w.last⟩ r.seq true (o.ground.set c (nth .int o.ground c - r.n)) o.air 1
def b8u (o : One) (k : Nat) (w : Wlk) (r : Ord) : OC :=
 let d := b7 o.map (l9 o.map w.pos) r.dest
 if I2 o.map w.pos r.dest = false then oFin o k w r.seq true o.ground o.air 7
 else if w.l7 < r.n then oFin o k w r.seq true o.ground o.air 3
 else if 100000 < nth .int (nth .ints o.air d.toNat) (1 - r.dest).toNat + r.n then oFin o k w r.seq true o.ground o.air 5
 else oFin o k ⟨w.id, w.pos, w.l7 - r.n, w.seq, w.last⟩ r.seq true o.ground (a3I o.air d (1 - r.dest) r.n) 1
def c0A (o : One) (k : Nat) (w : Wlk) (r : Ord) : OC :=
 if r.kind = 1 then oStep o k w r
 else if r.kind = 2 then oGive o k w r
 else if r.kind = 3 then oDrop o k w r
 else if r.kind = 4 then oPick o k w r
 else if r.kind = 5 then b8u o k w r
 else oFin o k w r.seq true o.ground o.air 1
def a5T (o : One) (r : Ord) : OC :=
 let k := m6 o.wlks r.who
 let x := nth .ow o.wlks k.toNat
 if ¬ (0 ≤ k ∧ x.here = true) then ⟨o, 9⟩
 else if r.seq < x.wlk.seq then ⟨o, 8⟩
 else if r.seq = x.wlk.seq then ⟨o, x.wlk.last⟩
 else c0A o k.toNat x.wlk r
def a8C (o : One) (id : Int) : One := if 0 ≤ m6 o.wlks id then ⟨o.map, o.wlks.set (m6 o.wlks id).toNat ⟨(nth .ow o.wlks (m6 o.wlks id).toNat).wlk, true⟩, o.ground, o.air⟩ else o
def a8E (o : One) (c s n : Int) : One :=
 if 0 ≤ c ∧ c < o.map.cells ∧ (s = 0 ∨ s = 1) ∧ 1 ≤ n ∧ n ≤ nth .int (nth .ints o.air c.toNat) s.toNat ∧ nth .int o.ground c.toNat + n ≤ 900 then
  ⟨o.map, o.wlks, o.ground.set c.toNat (nth .int o.ground c.toNat + n), o.air.set c.toNat ((nth .ints o.air c.toNat).set s.toNat (nth .int (nth .ints o.air c.toNat) s.toNat - n))⟩
 else o
def a9t (l : List OW) : Nat → Int
 | 0 => 0
 | k + 1 => a9t l k + (nth .ow l k).wlk.l7
def b0l (o : One) : Nat → Int
 | 0 => 0
 | k + 1 => b0l o k + (nth .int o.ground k + nth .int (nth .ints o.air k) 0 + nth .int (nth .ints o.air k) 1)
def a5U (o : One) : Int := if a9v o = true then a9t o.wlks o.wlks.length + b0l o o.ground.length else 0
theorem b7Y (l : List OW) : a9t l 0 = 0 := rfl
theorem b7Z (l : List OW) (k : Nat) : a9t l (k + 1) = a9t l k + (nth .ow l k).wlk.l7 := rfl
theorem b8P (o : One) : b0l o 0 = 0 := rfl
theorem b8Q (o : One) (k : Nat) : b0l o (k + 1) = b0l o k + (nth .int o.ground k + nth .int (nth .ints o.air k) 0 + nth .int (nth .ints o.air k) 1) := rfl
theorem row_mono {m : PMap} {l : List Row} (h : z8 m l = true) : ∀ j i, i < j → j < l.length → (nth .row l i).who < (nth .row l j).who := by
 rw [z8, Bool.and_eq_true] at h
 have ha := (k9 _ _).1 h.2
 intro j
 induction j with
 | zero => intro i hi; omega
 | succ j ih =>
  intro i hi hj
  have := ha (j + 1) hj
  simp only [I5, Bool.and_eq_true, Bool.or_eq_true, decide_eq_true_eq, Nat.add_sub_cancel] at this
  have h2 : (nth .row l j).who < (nth .row l (j + 1)).who := by omega
  by_cases hij : i = j
  ·subst hij; exact h2
  ·have := ih i (by omega) (by omega)
   omega
theorem b5E {m : PMap} {l : List Row} {who : Int} {k : Nat} (h : z8 m l = true) (hk : k < l.length) (hw : (nth .row l k).who = who) : l6 l who = k := by
 refine b7K ((k9 _ _).2 fun i hi => ?_) hk hw
 have := row_mono h k i hi hk
 simp only [nwho, a6k, Bool.not_eq_true', decide_eq_false_iff_not]
 omega
def a4c (m : PMap) (s : Srv) (st : List Sto) (t : Arb) (v : Int) (x : Msg) : Prop := y9 m s = true ∧ y1 m st = true ∧ A4 m t v = true ∧ u0 m v x = true
theorem a7L {m : PMap} {s : Srv} {st : List Sto} {cell : Int} {r : Rec} (hs : HSort s.holds) :
  ((A2 m s st cell r).n = 1 ∧ (s7 m (e9 s cell) (nth .sto st cell.toNat) r).n = 1 ∧ A2 m s st cell r = ⟨⟨s.up, putH s.holds ⟨(e9 s cell).age, (e9 s cell).count + 1, (j9 m (e9 s cell).state r).c⟩, s.m9⟩, st.set cell.toNat ⟨(nth .sto st cell.toNat).age, (nth .sto st cell.toNat).base, (nth .sto st cell.toNat).recs ++ [r]⟩, 1, (j9 m (e9 s cell).state r).code⟩) ∨
  ((A2 m s st cell r).n = 2 ∧ (s7 m (e9 s cell) (nth .sto st cell.toNat) r).n = 2 ∧ A2 m s st cell r = ⟨⟨s.up, C8 s.holds cell, s.m9⟩, st, 2, 0⟩) ∨
  ((A2 m s st cell r).n ≠ 1 ∧ (A2 m s st cell r).n ≠ 2 ∧ (A2 m s st cell r).srv = s ∧ (A2 m s st cell r).stores = st) := by
 unfold A2
 simp only
 by_cases h1 : (s7 m (e9 s cell) (nth .sto st cell.toNat) r).n = 1
 ·obtain ⟨g1, g2, g3, g4, g5, g6, g7, g8, g9, g10, g11⟩ := a8O h1
  rw [if_pos h1]
  refine .inl ⟨rfl, h1, ?_⟩
  rw [g9, g10, g11, a2x hs]
 ·rw [if_neg h1]
  by_cases h2 : (s7 m (e9 s cell) (nth .sto st cell.toNat) r).n = 2
  ·rw [if_pos h2]
   exact .inr (.inl ⟨rfl, h2, rfl⟩)
  ·rw [if_neg h2]
   exact .inr (.inr ⟨h1, h2, rfl, rfl⟩)
def a1U (t : Arb) (cell server : Int) : Msg := ⟨1, server, cell, 0, nth .int t.ages cell.toNat, s6, u6, F6⟩
inductive StepC (w : Wld) : Wld → Prop
 | same : StepC w w
 | grant (cell server : Int) (hg : (r6 w.table w.servers.length cell server).ok = true) : StepC w (u5 ⟨w.map, w.servers, w.stores, (r6 w.table w.servers.length cell server).t, w.rows, w.net, w.notes⟩ [a1U (r6 w.table w.servers.length cell server).t cell server])
 | ask (who what dest n : Int) : StepC w ⟨w.map, w.servers, w.stores, w.table, (M6 w.rows who what dest n).b, w.net, w.notes⟩
 | say (who : Int) (hs : (R6 w.rows w.table who).ok = true) : StepC w (u5 w [(R6 w.rows w.table who).x])
 | gate (i : Nat) (hi : i < w.net.length) (hd : (nth .msg w.net i).dest = -1) : StepC w (a2I (wCut w i) (nth .msg w.net i))
 | hear (i : Nat) (hi : i < w.net.length) (hd : ¬ (nth .msg w.net i).dest = -1) : StepC w (a1w (wCut w i) (nth .msg w.net i))
 | lose (i : Nat) (hi : i < w.net.length) : StepC w (wCut w i)
 | twice (i : Nat) (hi : i < w.net.length) : StepC w (u5 w [nth .msg w.net i])
 | tick (i : Nat) (hi : i < w.servers.length) (cell : Int) : StepC w (u5 w (B5 w.map (nth .srv w.servers i) w.table cell))
 | fall (i : Nat) (hi : i < w.servers.length) : StepC w ⟨w.map, w.servers.set i ⟨false, [], []⟩, w.stores, w.table, w.rows, w.net, w.notes⟩
 | rise (i : Nat) (hi : i < w.servers.length) (hu : (nth .srv w.servers i).up = false) : StepC w ⟨w.map, w.servers.set i ⟨true, [], []⟩, w.stores, w.table, w.rows, w.net, w.notes⟩
theorem a4D (w : Wld) (e : Evt) : StepC w (u4 w e) := by
 unfold u4
 by_cases k1 : e.kind = 1
 ·rw [if_pos k1]
  simp only
  split
  ·rename_i hg
   exact .grant e.pos e.dest hg
  ·exact .same
 rw [if_neg k1]
 by_cases k2 : e.kind = 2
 ·rw [if_pos k2]
  exact .ask _ _ _ _
 rw [if_neg k2]
 by_cases k3 : e.kind = 3
 ·rw [if_pos k3]
  split
  ·rename_i hs
   exact .say _ hs
  ·exact .same
 rw [if_neg k3]
 split
 ·split
  ·rename_i hp
   have hi : e.pos.toNat < w.net.length := by omega
   split
   ·unfold S7
    simp only
    split
    ·rename_i hd
     exact .gate _ hi hd
    ·rename_i hd
     exact .hear _ hi hd
   ·split
    ·exact .lose _ hi
    ·exact .twice _ hi
  ·exact .same
 ·split
  ·split
   ·rename_i hp
    have hi : e.pos.toNat < w.servers.length := by omega
    split
    ·exact .tick _ hi _
    ·split
     ·exact .fall _ hi
     ·split
      ·rename_i hu
       exact .rise _ hi hu
      ·exact .same
   ·exact .same
  ·exact .same
theorem D0 {w : Wld} {l : List Msg} {x : Msg} (h : x ∈ (u5 w l).net) : x ∈ w.net ∨ x ∈ l := by
 simp only [u5, List.mem_append] at h
 exact h.imp id List.mem_of_mem_take
theorem a3E {w : Wld} {i : Nat} {x : Msg} (h : x ∈ (wCut w i).net) : x ∈ w.net := List.mem_of_mem_eraseIdx h
theorem a5w {l : List Row} {t : Arb} {who : Int} (hs : (R6 l t who).ok = true) : (R6 l t who).x.kind = 2 := by
 unfold R6 at hs ⊢
 split at hs
 ·rename_i hc
  rw [if_pos hc]
 ·cases hs
theorem a6P {m : PMap} {s : Srv} {t : Arb} {cell : Int} {z : Msg} (h : z ∈ B5 m s t cell) : z.kind = 5 ∨ z.kind = 7 := by
 have side : ∀ sd, z ∈ A5 m t (e9 s cell) cell sd → z.kind = 5 ∨ z.kind = 7 := fun sd hz => by
  unfold A5 at hz
  simp only at hz
  split at hz
  ·cases hz
  ·rcases List.mem_append.1 hz with hz | hz
   ·obtain ⟨_, _, rfl⟩ := List.mem_map.1 hz
    exact .inl rfl
   ·obtain ⟨_, _, rfl⟩ := List.mem_map.1 hz
    exact .inr rfl
 unfold B5 at h
 split at h
 ·rcases List.mem_append.1 h with h | h
  ·exact side _ h
  ·exact side _ h
 ·cases h
theorem O6 {m : PMap} {c : Cll} {l l' : List Rec} : ∀ {k : Nat}, k ≤ l.length → r9 m c (l ++ l') k = r9 m c l k
 | 0, _ => rfl
 | k + 1, h => by
  have ih := O6 (m := m) (c := c) (l := l) (l' := l') (k := k) (by omega)
  have hn : nth .rcd (l ++ l') k = nth .rcd l k := by simp [nth, List.getD, List.getElem?_append_left (show k < l.length by omega)]
  simp only [r9, ih, hn]
theorem a3N {m : PMap} {s : Sto} (h : y4 m s = true) : q9 m s = r9 m s.base s.recs s.recs.length := a4f (s8.1 h).2.2.2
def stAt (st : List Sto) (c : Int) : Sto := nth .sto st c.toNat
structure HoldInv (m : PMap) (st : List Sto) (h : Hld) : Prop where
 age : h.age ≤ (stAt st h.state.cell).age
 zero : 0 ≤ h.count
 count : h.count ≤ (stAt st h.state.cell).recs.length
 state : h.state = r9 m (stAt st h.state.cell).base (stAt st h.state.cell).recs h.count.toNat
 all : h.age = (stAt st h.state.cell).age → h.count = (stAt st h.state.cell).recs.length
inductive Tok (w : Wld) (i : Nat) (c n : Int) : Prop
 | hold (hi : i < w.servers.length) (h : Hld) (hm : h ∈ (nth .srv w.servers i).holds) (hc : h.state.cell = c) (hn : h.age = n)
 | word (x : Msg) (hx : x ∈ w.net) (hk : x.kind = 1) (hd : x.dest = (i : Int)) (hc : x.cell = c) (hn : x.n = n)
 | table (h0 : 0 ≤ c) (hc : c.toNat < w.table.servers.length) (hs : @Eq Int (nth .int w.table.servers c.toNat) (i : Int)) (hn : @Eq Int (nth .int w.table.ages c.toNat) n)
structure Fence (w : Wld) : Prop where
 hold : ∀ i, i < w.servers.length → ∀ h ∈ (nth .srv w.servers i).holds, HoldInv w.map w.stores h
 one : ∀ i j c n, Tok w i c n → Tok w j c n → i = j
theorem K9 {w w' : Wld} (hf : Fence w) (hm : w'.map = w.map) (hs : w'.stores = w.stores) (ht : w'.table = w.table)
  (hh : ∀ i, i < w'.servers.length → ∀ h ∈ (nth .srv w'.servers i).holds, i < w.servers.length ∧ h ∈ (nth .srv w.servers i).holds)
  (hn : ∀ x ∈ w'.net, x.kind = 1 → x ∈ w.net) : Fence w' := by
 have tok : ∀ i c n, Tok w' i c n → Tok w i c n := fun i c n h => by
  cases h with
  | hold hi h hm hc hn => exact .hold (hh i hi h hm).1 h (hh i hi h hm).2 hc hn
  | word x hx hk hd hc hn' => exact .word x (hn x hx hk) hk hd hc hn'
  | table h0 hc hs hn => rw [ht] at hc hs hn; exact .table h0 hc hs hn
 refine ⟨fun i hi h hm' => ?_, fun i j c n h1 h2 => hf.one i j c n (tok _ _ _ h1) (tok _ _ _ h2)⟩
 rw [hm, hs]
 exact hf.hold i (hh i hi h hm').1 h (hh i hi h hm').2
theorem tok_le {w : Wld} (hok : o6 w = true) {i : Nat} {c n : Int} (h : Tok w i c n) : n ≤ nth .int w.table.ages c.toNat := by
 obtain ⟨h1, h2, h3, h4, h5, h6, h7, h8, h9⟩ := m8.1 hok
 cases h with
 | hold hi h hm hc hn => subst hc hn; exact (h7 _ (n6 .srv hi)).2 h hm
 | word x hx hk hd hc hn => subst hc hn; exact (h8 x hx).2 hk
 | table h0 hc hs hn => exact Int.le_of_eq hn.symm
theorem b6T {w : Wld} (hok : o6 w = true) (hf : Fence w) {cell server : Int} (hg : (r6 w.table w.servers.length cell server).ok = true) :
  Fence (u5 ⟨w.map, w.servers, w.stores, (r6 w.table w.servers.length cell server).t, w.rows, w.net, w.notes⟩ [a1U (r6 w.table w.servers.length cell server).t cell server]) := by
 obtain ⟨h1, _⟩ := m8.1 hok
 obtain ⟨g1, c1, c2, c3, c4, ge, b3, b4⟩ := a6q h1 hg
 obtain ⟨l1, l2, _⟩ := E6 h1
 have hcl : cell.toNat < w.table.ages.length := by omega
 have hcs : cell.toNat < w.table.servers.length := by omega
 have tok : ∀ i c n, Tok (u5 ⟨w.map, w.servers, w.stores, (r6 w.table w.servers.length cell server).t, w.rows, w.net, w.notes⟩ [a1U (r6 w.table w.servers.length cell server).t cell server]) i c n →
   Tok w i c n ∨ (c = cell ∧ @Eq Int n (nth .int w.table.ages cell.toNat + 1) ∧ server = (i : Int)) := fun i c n h => by
  cases h with
  | hold hi h hm hc hn => exact .inl (.hold hi h hm hc hn)
  | word x hx hk hd hc hn =>
   rcases D0 hx with hx | hx
   ·exact .inl (.word x hx hk hd hc hn)
   ·right
    simp only [List.mem_singleton] at hx
    subst hx
    refine ⟨hc.symm, ?_, hd⟩
    rw [← hn]
    simp only [a1U]
    rw [ge]
    exact m5 .int hcl
  | table h0 hc hs hn =>
   simp only [u5] at hc hs hn
   rw [ge] at hc hs hn
   simp only [List.length_set] at hc
   rw [F8 .int hcs] at hs
   rw [F8 .int hcl] at hn
   by_cases he : c.toNat = cell.toNat
   ·rw [if_pos he] at hs hn
    exact .inr ⟨by omega, hn.symm, hs⟩
   ·rw [if_neg he] at hs hn
    exact .inl (.table h0 hc hs hn)
 refine ⟨fun i hi h hm => hf.hold i hi h hm, fun i j c n h1 h2 => ?_⟩
 rcases tok _ _ _ h1 with t1 | ⟨p1, p2, p3⟩
 ·rcases tok _ _ _ h2 with t2 | ⟨q1, q2, q3⟩
  ·exact hf.one i j c n t1 t2
  ·have := tok_le hok t1
   rw [q1] at this
   exfalso
   rw [q2] at this
   generalize (nth .int w.table.ages cell.toNat : Int) = a at *
   omega
 ·rcases tok _ _ _ h2 with t2 | ⟨q1, q2, q3⟩
  ·have := tok_le hok t2
   rw [p1] at this
   exfalso
   rw [p2] at this
   generalize (nth .int w.table.ages cell.toNat : Int) = a at *
   omega
  ·omega
theorem a0f {l : List Srv} {i j : Nat} {s : Srv} (hi : i < l.length) : nth .srv (l.set i s) j = if j = i then s else nth .srv l j := F8 .srv hi
theorem I0 {l : List Sto} {c c' : Int} {s : Sto} (hc : c.toNat < l.length) : stAt (l.set c.toNat s) c' = if c'.toNat = c.toNat then s else stAt l c' := by
 unfold stAt
 exact F8 .sto hc
theorem b8V {w : Wld} (hok : o6 w = true) (hf : Fence w) {k : Nat} (hk : k < w.net.length) (hd : ¬ (nth .msg w.net k).dest = -1) : Fence (a1w (wCut w k) (nth .msg w.net k)) := by
 obtain ⟨h1, h2, h3, h4, h5, h6, h7, h8, h9⟩ := m8.1 hok
 have hxm := n6 .msg hk
 generalize hx : nth .msg w.net k = x at *
 have hx1 := (h8 x hxm).1
 have hdd : 0 ≤ x.dest ∧ x.dest < w.servers.length := by
  rcases a1P hx1 with ⟨_, g1, g2⟩ | ⟨_, g⟩
  ·exact ⟨g1, g2⟩
  ·exact absurd g hd
 have hdn : x.dest.toNat < w.servers.length := by omega
 obtain ⟨o1, _⟩ := h7 _ (n6 .srv hdn)
 have he := a7y (t := w.table) o1 h2 hx1
 have hout : ∀ z ∈ (n9 w.map (nth .srv w.servers x.dest.toNat) w.stores w.table x).out, z.kind ≠ 1 := fun z hz => by
  have := a5P hz
  omega
 have hW : a1w (wCut w k) x = u5 ⟨w.map, w.servers.set x.dest.toNat (n9 w.map (nth .srv w.servers x.dest.toNat) w.stores w.table x).srv, (n9 w.map (nth .srv w.servers x.dest.toNat) w.stores w.table x).stores, w.table, w.rows, w.net.eraseIdx k, w.notes⟩ (n9 w.map (nth .srv w.servers x.dest.toNat) w.stores w.table x).out := rfl
 rw [hW]
 generalize hX : n9 w.map (nth .srv w.servers x.dest.toNat) w.stores w.table x = X at *
 obtain ⟨s', st', out⟩ := X
 simp only at he hout ⊢
 have hcs := a2g h2 hx1
 obtain ⟨_, _, hall, hsort⟩ := x8.1 o1
 have word : ∀ z ∈ (u5 ⟨w.map, w.servers.set x.dest.toNat s', st', w.table, w.rows, w.net.eraseIdx k, w.notes⟩ out).net, z.kind = 1 → z ∈ w.net := fun z hz hk1 => by
  rcases D0 hz with hz | hz
  ·exact List.mem_of_mem_eraseIdx hz
  ·exact absurd hk1 (hout z hz)
 have quiet : st' = w.stores → (∀ h ∈ s'.holds, h ∈ (nth .srv w.servers x.dest.toNat).holds) → Fence (u5 ⟨w.map, w.servers.set x.dest.toNat s', st', w.table, w.rows, w.net.eraseIdx k, w.notes⟩ out) := fun e1 e2 => by
  refine K9 hf rfl e1 rfl (fun i hi h hm => ?_) word
  have hi' : i < w.servers.length := by simpa [u5] using hi
  refine ⟨hi', ?_⟩
  simp only [u5] at hm
  rw [a0f hdn] at hm
  split at hm
  ·rename_i hij
   rw [hij]
   exact e2 h hm
  ·exact hm
 cases he with
 | same => exact quiet rfl fun h hm => hm
 | ghost hu hk7 => exact quiet rfl fun h hm => hm
 | lost hu hkk hh ha => exact quiet rfl fun h hm => (b4o.1 hm).1
 | grant hu hk1 hn ha =>
  have htx : Tok w x.dest.toNat x.cell x.n := .word x hxm hk1 (by omega) rfl rfl
  have hcell : (q9 w.map (n5 w.stores x)).cell = x.cell := by rw [a0w, hcs.2.2.2]
  have tok : ∀ i c n, Tok (u5 ⟨w.map, w.servers.set x.dest.toNat ⟨(nth .srv w.servers x.dest.toNat).up, putH (nth .srv w.servers x.dest.toNat).holds ⟨x.n, (n5 w.stores x).recs.length, q9 w.map (n5 w.stores x)⟩, (nth .srv w.servers x.dest.toNat).m9⟩, w.stores.set x.cell.toNat ⟨x.n, (n5 w.stores x).base, (n5 w.stores x).recs⟩, w.table, w.rows, w.net.eraseIdx k, w.notes⟩ out) i c n → Tok w i c n := fun i c n h => by
   cases h with
   | hold hi h hm hc hn =>
    have hi' : i < w.servers.length := by simpa [u5] using hi
    simp only [u5] at hm
    rw [a0f hdn] at hm
    split at hm
    ·rename_i hij
     rcases Q3 hsort hm with rfl | ⟨hm, _⟩
     ·rw [hij, ← hc, ← hn]
      simp only
      rw [hcell]
      exact htx
     ·exact .hold hi' h (by rw [hij]; exact hm) hc hn
    ·exact .hold hi' h hm hc hn
   | word z hz hk hd hc hn => exact .word z (word z hz hk) hk hd hc hn
   | table h0 hc hs hn => exact .table h0 hc hs hn
  refine ⟨fun i hi h hm => ?_, fun i j c n t1 t2 => hf.one i j c n (tok _ _ _ t1) (tok _ _ _ t2)⟩
  have hi' : i < w.servers.length := by simpa [u5] using hi
  have old : h ∈ (nth .srv w.servers i).holds → (h.state.cell = x.cell → h.age < x.n) → HoldInv w.map (w.stores.set x.cell.toNat ⟨x.n, (n5 w.stores x).base, (n5 w.stores x).recs⟩) h := fun hm hlt => by
   have hI := hf.hold i hi' h hm
   have hcp := (n0 (y0.1 ((x8.1 (h7 _ (n6 .srv hi')).1).2.2.1 h hm)).2.2)
   by_cases hcx : h.state.cell.toNat = x.cell.toNat
   ·have hcx' : h.state.cell = x.cell := by omega
    have hS : stAt (w.stores.set x.cell.toNat ⟨x.n, (n5 w.stores x).base, (n5 w.stores x).recs⟩) h.state.cell = ⟨x.n, (n5 w.stores x).base, (n5 w.stores x).recs⟩ := by rw [I0 hcs.2.1, if_pos hcx]
    have hO : stAt w.stores h.state.cell = n5 w.stores x := by rw [hcx']; rfl
    refine ⟨?_, hI.zero, ?_, ?_, ?_⟩
    ·rw [hS]; exact Int.le_of_lt (hlt hcx')
    ·rw [hS, ← hO]; exact hI.count
    ·rw [hS, ← hO]; exact hI.state
    ·rw [hS]; exact fun he => absurd he (Int.ne_of_lt (hlt hcx'))
   ·have hS : stAt (w.stores.set x.cell.toNat ⟨x.n, (n5 w.stores x).base, (n5 w.stores x).recs⟩) h.state.cell = stAt w.stores h.state.cell := by rw [I0 hcs.2.1, if_neg hcx]
    exact ⟨by rw [hS]; exact hI.age, hI.zero, by rw [hS]; exact hI.count, by rw [hS]; exact hI.state, by rw [hS]; exact hI.all⟩
  simp only [u5] at hm ⊢
  rw [a0f hdn] at hm
  split at hm
  ·rename_i hij
   rcases Q3 hsort hm with rfl | ⟨hm, hne⟩
   ·have hS : stAt (w.stores.set x.cell.toNat ⟨x.n, (n5 w.stores x).base, (n5 w.stores x).recs⟩) (q9 w.map (n5 w.stores x)).cell = ⟨x.n, (n5 w.stores x).base, (n5 w.stores x).recs⟩ := by rw [hcell, I0 hcs.2.1, if_pos rfl]
    refine ⟨by rw [hS]; exact Int.le_refl _, by simp only; omega, by rw [hS]; exact Int.le_refl _, ?_, by rw [hS]; exact fun _ => rfl⟩
    rw [hS]
    simp only [Int.toNat_natCast]
    exact a3N hcs.2.2.1
   ·refine old (by rw [hij]; exact hm) fun he => absurd ?_ hne
    rw [he, hcell]
  ·rename_i hij
   refine old hm fun he => ?_
   have hI := hf.hold i hi' h hm
   have hO : stAt w.stores h.state.cell = n5 w.stores x := by rw [he]; rfl
   have hle := hI.age
   rw [hO] at hle
   rcases Int.lt_or_eq_of_le (Int.le_trans hle ha) with h0 | h0
   ·exact h0
   ·exact absurd (hf.one i x.dest.toNat x.cell x.n (.hold hi' h hm he h0) htx) hij
 | write hu hkk hh ha hc hl hr ha1 ha2 hff hp =>
  obtain ⟨hmem, hcc⟩ := E1 hh
  have hIH := hf.hold _ hdn _ hmem
  have htx : Tok w x.dest.toNat x.cell (e9 (nth .srv w.servers x.dest.toNat) x.cell).age := .hold hdn _ hmem hcc rfl
  have hcell : (j9 w.map (e9 (nth .srv w.servers x.dest.toNat) x.cell).state (n7 x)).c.cell = x.cell := by rw [X6, hcc]
  have hOH : stAt w.stores (e9 (nth .srv w.servers x.dest.toNat) x.cell).state.cell = n5 w.stores x := by rw [hcc]; rfl
  generalize hH : e9 (nth .srv w.servers x.dest.toNat) x.cell = H at *
  have tok : ∀ i c n, Tok (u5 ⟨w.map, w.servers.set x.dest.toNat ⟨(nth .srv w.servers x.dest.toNat).up, putH (nth .srv w.servers x.dest.toNat).holds ⟨H.age, H.count + 1, (j9 w.map H.state (n7 x)).c⟩, (nth .srv w.servers x.dest.toNat).m9⟩, w.stores.set x.cell.toNat ⟨(n5 w.stores x).age, (n5 w.stores x).base, (n5 w.stores x).recs ++ [n7 x]⟩, w.table, w.rows, w.net.eraseIdx k, w.notes⟩ out) i c n → Tok w i c n := fun i c n h => by
   cases h with
   | hold hi h hm hc hn =>
    have hi' : i < w.servers.length := by simpa [u5] using hi
    simp only [u5] at hm
    rw [a0f hdn] at hm
    split at hm
    ·rename_i hij
     rcases Q3 hsort hm with rfl | ⟨hm, _⟩
     ·rw [hij, ← hc, ← hn]
      simp only
      rw [hcell]
      exact htx
     ·exact .hold hi' h (by rw [hij]; exact hm) hc hn
    ·exact .hold hi' h hm hc hn
   | word z hz hk hd hc hn => exact .word z (word z hz hk) hk hd hc hn
   | table h0 hc hs hn => exact .table h0 hc hs hn
  refine ⟨fun i hi h hm => ?_, fun i j c n t1 t2 => hf.one i j c n (tok _ _ _ t1) (tok _ _ _ t2)⟩
  have hi' : i < w.servers.length := by simpa [u5] using hi
  have old : h ∈ (nth .srv w.servers i).holds → (h.state.cell = x.cell → h.age ≠ (n5 w.stores x).age) → HoldInv w.map (w.stores.set x.cell.toNat ⟨(n5 w.stores x).age, (n5 w.stores x).base, (n5 w.stores x).recs ++ [n7 x]⟩) h := fun hm hlt => by
   have hI := hf.hold i hi' h hm
   have hcp := (n0 (y0.1 ((x8.1 (h7 _ (n6 .srv hi')).1).2.2.1 h hm)).2.2)
   by_cases hcx : h.state.cell.toNat = x.cell.toNat
   ·have hcx' : h.state.cell = x.cell := by omega
    have hS : stAt (w.stores.set x.cell.toNat ⟨(n5 w.stores x).age, (n5 w.stores x).base, (n5 w.stores x).recs ++ [n7 x]⟩) h.state.cell = ⟨(n5 w.stores x).age, (n5 w.stores x).base, (n5 w.stores x).recs ++ [n7 x]⟩ := by rw [I0 hcs.2.1, if_pos hcx]
    have hO : stAt w.stores h.state.cell = n5 w.stores x := by rw [hcx']; rfl
    have hcnt := hI.count
    have hstt := hI.state
    have hage := hI.age
    rw [hO] at hcnt hstt hage
    refine ⟨?_, hI.zero, ?_, ?_, ?_⟩
    ·rw [hS]; exact hage
    ·rw [hS]; simp only [List.length_append, List.length_singleton]; omega
    ·rw [hS]
     simp only
     rw [O6 (by have := hI.zero; omega)]
     exact hstt
    ·rw [hS]; exact fun he => absurd he (hlt hcx')
   ·have hS : stAt (w.stores.set x.cell.toNat ⟨(n5 w.stores x).age, (n5 w.stores x).base, (n5 w.stores x).recs ++ [n7 x]⟩) h.state.cell = stAt w.stores h.state.cell := by rw [I0 hcs.2.1, if_neg hcx]
    exact ⟨by rw [hS]; exact hI.age, hI.zero, by rw [hS]; exact hI.count, by rw [hS]; exact hI.state, by rw [hS]; exact hI.all⟩
  simp only [u5] at hm ⊢
  rw [a0f hdn] at hm
  split at hm
  ·rename_i hij
   rcases Q3 hsort hm with rfl | ⟨hm, hne⟩
   ·have hS : stAt (w.stores.set x.cell.toNat ⟨(n5 w.stores x).age, (n5 w.stores x).base, (n5 w.stores x).recs ++ [n7 x]⟩) (j9 w.map H.state (n7 x)).c.cell = ⟨(n5 w.stores x).age, (n5 w.stores x).base, (n5 w.stores x).recs ++ [n7 x]⟩ := by rw [hcell, I0 hcs.2.1, if_pos rfl]
    have hstt := hIH.state
    rw [hOH, hc] at hstt
    refine ⟨by rw [hS]; exact Int.le_of_eq ha, by have := hIH.zero; simp only; omega, by rw [hS]; simp only [List.length_append, List.length_singleton]; omega, ?_, by rw [hS]; simp only [List.length_append, List.length_singleton]; omega⟩
    rw [hS]
    simp only
    have e1 : (H.count + 1).toNat = (n5 w.stores x).recs.length + 1 := by omega
    rw [e1]
    show _ = (j9 w.map (r9 w.map (n5 w.stores x).base ((n5 w.stores x).recs ++ [n7 x]) (n5 w.stores x).recs.length) (nth .rcd ((n5 w.stores x).recs ++ [n7 x]) (n5 w.stores x).recs.length)).c
    rw [O6 (Nat.le_refl _), a6a .rcd]
    simp only [Int.toNat_natCast] at hstt
    rw [← hstt]
   ·refine old (by rw [hij]; exact hm) fun he => absurd ?_ hne
    rw [he, hcell]
  ·rename_i hij
   refine old hm fun he h0 => ?_
   rw [← ha] at h0
   exact absurd (hf.one i x.dest.toNat x.cell H.age (.hold hi' h hm he h0) htx) hij
theorem b0t {w w' : Wld} (hok : o6 w = true) (hf : Fence w) (hs : StepC w w') : Fence w' := by
 have emp : ∀ (i : Nat) (u : Bool), i < w.servers.length → Fence ⟨w.map, w.servers.set i ⟨u, [], []⟩, w.stores, w.table, w.rows, w.net, w.notes⟩ := fun i u hi => by
  refine K9 hf rfl rfl rfl (fun j hj h hm => ?_) (fun x hx _ => hx)
  simp only [List.length_set] at hj
  refine ⟨hj, ?_⟩
  simp only at hm
  rw [a0f hi] at hm
  split at hm
  ·cases hm
  ·exact hm
 cases hs with
 | same => exact hf
 | grant cell server hg => exact b6T hok hf hg
 | ask => exact K9 hf rfl rfl rfl (fun i hi h hm => ⟨hi, hm⟩) (fun x hx _ => hx)
 | say who hs =>
  refine K9 hf rfl rfl rfl (fun i hi h hm => ⟨hi, hm⟩) (fun x hx hk => ?_)
  rcases D0 hx with hx | hx
  ·exact hx
  ·simp only [List.mem_singleton] at hx
   subst hx
   rw [a5w hs] at hk
   cases hk
 | gate i hi hd => exact K9 hf rfl rfl rfl (fun i hi h hm => ⟨hi, hm⟩) (fun x hx _ => a3E (i := i) hx)
 | hear i hi hd => exact b8V hok hf hi hd
 | lose i hi => exact K9 hf rfl rfl rfl (fun i hi h hm => ⟨hi, hm⟩) (fun x hx _ => a3E hx)
 | twice i hi =>
  refine K9 hf rfl rfl rfl (fun i hi h hm => ⟨hi, hm⟩) (fun x hx hk => ?_)
  rcases D0 hx with hx | hx
  ·exact hx
  ·simp only [List.mem_singleton] at hx
   subst hx
   exact n6 .msg hi
 | tick i hi cell =>
  refine K9 hf rfl rfl rfl (fun i hi h hm => ⟨hi, hm⟩) (fun x hx hk => ?_)
  rcases D0 hx with hx | hx
  ·exact hx
  ·have := a6P hx
   omega
 | fall i hi => exact emp i false hi
 | rise i hi hu => exact emp i true hi
structure Grow (m : PMap) (st st' : List Sto) : Prop where
 len : st'.length = st.length
 base : ∀ c : Int, (stAt st' c).base = (stAt st c).base
 recs : ∀ c : Int, ∃ l, (stAt st' c).recs = (stAt st c).recs ++ l
theorem Grow.refl (m : PMap) (st : List Sto) : Grow m st st := ⟨rfl, fun _ => rfl, fun _ => ⟨[], by simp⟩⟩
theorem Grow.fold {m : PMap} {st st' : List Sto} (h : Grow m st st') (c : Int) {k : Nat} (hk : k ≤ (stAt st c).recs.length) : r9 m (stAt st' c).base (stAt st' c).recs k = r9 m (stAt st c).base (stAt st c).recs k := by
 obtain ⟨l, hl⟩ := h.recs c
 rw [h.base, hl, O6 hk]
theorem Grow.le {m : PMap} {st st' : List Sto} (h : Grow m st st') (c : Int) : (stAt st c).recs.length ≤ (stAt st' c).recs.length := by
 obtain ⟨l, hl⟩ := h.recs c
 rw [hl, List.length_append]
 omega
theorem b6L {m : PMap} {s s' : Srv} {st st' : List Sto} {v : Int} {x : Msg} (hst : y1 m st = true) (hx : u0 m v x = true) (he : Eff m s st x s' st') : Grow m st st' := by
 have hc := a2g hst hx
 cases he with
 | same => exact Grow.refl _ _
 | ghost => exact Grow.refl _ _
 | lost => exact Grow.refl _ _
 | grant hu hk hn ha =>
  refine ⟨by simp, fun c => ?_, fun c => ⟨[], ?_⟩⟩
  ·rw [I0 hc.2.1]
   split
   ·rename_i h
    unfold n5 stAt
    rw [h]
   ·rfl
  ·rw [I0 hc.2.1]
   split
   ·rename_i h
    unfold n5 stAt
    rw [h]
    simp
   ·simp
 | write hu hk hh ha hcn hl hr h1 h2 hf hp =>
  refine ⟨by simp, fun c => ?_, fun c => ?_⟩
  ·rw [I0 hc.2.1]
   split
   ·rename_i h
    unfold n5 stAt
    rw [h]
   ·rfl
  ·rw [I0 hc.2.1]
   split
   ·rename_i h
    refine ⟨[n7 x], ?_⟩
    unfold n5 stAt
    rw [h]
   ·exact ⟨[], by simp⟩
structure Heard (w : Wld) (k : Nat) (x : Msg) (X : SH) : Prop where
 mem : x ∈ w.net
 ok : u0 w.map w.servers.length x = true
 dest : 0 ≤ x.dest
 lt : x.dest.toNat < w.servers.length
 srv : y9 w.map (nth .srv w.servers x.dest.toNat) = true
 stos : y1 w.map w.stores = true
 eff : Eff w.map (nth .srv w.servers x.dest.toNat) w.stores x X.srv X.stores
 is : X = n9 w.map (nth .srv w.servers x.dest.toNat) w.stores w.table x
 arb : A4 w.map w.table w.servers.length = true
theorem heard {w : Wld} (hok : o6 w = true) {k : Nat} (hk : k < w.net.length) (hd : ¬ (nth .msg w.net k).dest = -1) : ∃ X, Heard w k (nth .msg w.net k) X ∧
  a1w (wCut w k) (nth .msg w.net k) = u5 ⟨w.map, w.servers.set (nth .msg w.net k).dest.toNat X.srv, X.stores, w.table, w.rows, w.net.eraseIdx k, w.notes⟩ X.out := by
 obtain ⟨h1, h2, h3, h4, h5, h6, h7, h8, h9⟩ := m8.1 hok
 have hxm := n6 .msg hk
 have hx1 := (h8 _ hxm).1
 have hdd : 0 ≤ (nth .msg w.net k).dest ∧ (nth .msg w.net k).dest < w.servers.length := by
  rcases a1P hx1 with ⟨_, g1, g2⟩ | ⟨_, g⟩
  ·exact ⟨g1, g2⟩
  ·exact absurd g hd
 have hdn : (nth .msg w.net k).dest.toNat < w.servers.length := by omega
 obtain ⟨o1, _⟩ := h7 _ (n6 .srv hdn)
 exact ⟨n9 w.map (nth .srv w.servers (nth .msg w.net k).dest.toNat) w.stores w.table (nth .msg w.net k), ⟨hxm, hx1, hdd.1, hdn, o1, h2, a7y o1 h2 hx1, rfl, h1⟩, rfl⟩
theorem b6i {m : PMap} {l : List Wlk} (h : z6 m l = true) {w : Wlk} (hw : w ∈ l) : o7 l w.id = true ∧ A3 l w.id = w := by
 have hs := a8Z h
 obtain ⟨i, hi, e⟩ := L6 .wlk hw
 have hp : j7 l w.id = (i : Int) := by
  rcases C6 (isId w.id) l with ⟨_, hn⟩ | ⟨k, hk, hk1, hk2, hk3⟩
  ·have := hn w hw
   simp [isId] at this
  ·unfold j7
   rw [hk1]
   have hkid : (nth .wlk l k).id = w.id := by
    rw [k8 .wlk l k hk]
    simpa [isId] using hk2
   have : k = i := by
    rcases Nat.lt_trichotomy k i with h0 | h0 | h0
    ·have := hs k i h0 hi
     rw [e] at this
     omega
    ·exact h0
    ·have := hs i k h0 hk
     rw [e] at this
     omega
   rw [this]
 constructor
 ·simp only [o7, decide_eq_true_eq, hp]
  omega
 ·rw [A3, if_pos (by rw [hp]; omega), hp, Int.toNat_natCast]
  exact e
structure GhOk (m : PMap) (st : List Sto) (g : Gst) : Prop where
 zero : 0 ≤ g.count
 count : g.count ≤ (stAt st g.src).recs.length
 mem : g.wlk ∈ (r9 m (stAt st g.src).base (stAt st g.src).recs g.count.toNat).wlks
theorem GhOk.grow {m : PMap} {st st' : List Sto} {g : Gst} (h : GhOk m st g) (hg : Grow m st st') : GhOk m st' g :=
 ⟨h.zero, by have := hg.le g.src; have := h.count; omega, by rw [hg.fold g.src (by have := h.count; have := h.zero; omega)]; exact h.mem⟩
structure Shown (w : Wld) : Prop where
 srv : ∀ i, i < w.servers.length → ∀ g ∈ (nth .srv w.servers i).m9, GhOk w.map w.stores g
 net : ∀ x ∈ w.net, x.kind = 7 → GhOk w.map w.stores x.gst
theorem ghosts_in {m : PMap} {h : Hld} {sd : Int} {g : Gst} (hg : g ∈ m9 m h sd) : g.src = h.state.cell ∧ g.count = h.count ∧ g.wlk ∈ h.state.wlks := by
 unfold m9 ghTo flt at hg
 obtain ⟨v, hv, rfl⟩ := List.mem_map.1 hg
 exact ⟨rfl, rfl, List.mem_of_mem_take (List.mem_filter.1 hv).1⟩
theorem b7v {m : PMap} {s : Srv} {t : Arb} {cell : Int} {z : Msg} (h : z ∈ B5 m s t cell) (hk : z.kind = 7) : ∃ g ∈ s.holds, z.gst.src = g.state.cell ∧ z.gst.count = g.count ∧ z.gst.wlk ∈ g.state.wlks := by
 unfold B5 at h
 split at h
 ·rename_i hh
  have hm := (E1 hh).1
  have side : ∀ sd, z ∈ A5 m t (e9 s cell) cell sd → ∃ g ∈ s.holds, z.gst.src = g.state.cell ∧ z.gst.count = g.count ∧ z.gst.wlk ∈ g.state.wlks := fun sd hz => by
   unfold A5 at hz
   simp only at hz
   split at hz
   ·cases hz
   ·rcases List.mem_append.1 hz with hz | hz
    ·obtain ⟨_, _, rfl⟩ := List.mem_map.1 hz
     cases hk
    ·obtain ⟨g, hg, rfl⟩ := List.mem_map.1 hz
     exact ⟨_, hm, ghosts_in (List.mem_of_mem_take hg)⟩
  rcases List.mem_append.1 h with h | h
  ·exact side _ h
  ·exact side _ h
 ·cases h
theorem b7E {w w' : Wld} (hok : o6 w = true) (hf : Fence w) (hg : Shown w) (hs : StepC w w') : Shown w' := by
 obtain ⟨h1, h2, h3, h4, h5, h6, h7, h8, h9⟩ := m8.1 hok
 have emp : ∀ (i : Nat) (u : Bool), i < w.servers.length → Shown ⟨w.map, w.servers.set i ⟨u, [], []⟩, w.stores, w.table, w.rows, w.net, w.notes⟩ := fun i u hi => by
  refine ⟨fun j hj g hm => ?_, hg.net⟩
  simp only [List.length_set] at hj
  simp only at hm
  rw [a0f hi] at hm
  split at hm
  ·cases hm
  ·exact hg.srv j hj g hm
 cases hs with
 | same => exact hg
 | grant cell server hgr =>
  refine ⟨hg.srv, fun x hx hk => ?_⟩
  rcases D0 hx with hx | hx
  ·exact hg.net x hx hk
  ·simp only [List.mem_singleton] at hx
   subst hx
   cases hk
 | ask => exact ⟨hg.srv, hg.net⟩
 | say who hs =>
  refine ⟨hg.srv, fun x hx hk => ?_⟩
  rcases D0 hx with hx | hx
  ·exact hg.net x hx hk
  ·simp only [List.mem_singleton] at hx
   subst hx
   rw [a5w hs] at hk
   cases hk
 | gate i hi hd => exact ⟨hg.srv, fun x hx hk => hg.net x (a3E (i := i) hx) hk⟩
 | hear i hi hd =>
  obtain ⟨X, hX, e⟩ := heard hok hi hd
  rw [e]
  have hgr := b6L hX.stos hX.ok hX.eff
  have hgs := (x8.1 hX.srv).1
  have hsort : GSort (nth .srv w.servers (nth .msg w.net i).dest.toNat).m9 := (W8.1 hgs).2.2.2
  have hin : ∀ g ∈ X.srv.m9, g ∈ (nth .srv w.servers (nth .msg w.net i).dest.toNat).m9 ∨ ((nth .msg w.net i).kind = 7 ∧ g = (nth .msg w.net i).gst) := fun g hgm => by
   have he := hX.eff
   generalize X.srv = s' at *
   generalize X.stores = st' at *
   cases he with
   | same => exact .inl hgm
   | ghost hu hk =>
    simp only at hgm
    rw [a4U hsort] at hgm
    rcases a5E hgm with h | h
    ·exact .inr ⟨hk, h⟩
    ·exact .inl h
   | grant => exact .inl hgm
   | lost => exact .inl hgm
   | write => exact .inl hgm
  refine ⟨fun j hj g hm => ?_, fun x hx hk => ?_⟩
  ·have hj' : j < w.servers.length := by simpa [u5] using hj
   simp only [u5] at hm ⊢
   rw [a0f hX.lt] at hm
   split at hm
   ·rcases hin g hm with h | ⟨hk, rfl⟩
    ·exact (hg.srv _ hX.lt g h).grow hgr
    ·exact (hg.net _ hX.mem hk).grow hgr
   ·exact (hg.srv j hj' g hm).grow hgr
  ·rcases D0 hx with hx | hx
   ·exact (hg.net x (List.mem_of_mem_eraseIdx hx) hk).grow hgr
   ·rw [hX.is] at hx
    have := a5P hx
    omega
 | lose i hi => exact ⟨hg.srv, fun x hx hk => hg.net x (a3E hx) hk⟩
 | twice i hi =>
  refine ⟨hg.srv, fun x hx hk => ?_⟩
  rcases D0 hx with hx | hx
  ·exact hg.net x hx hk
  ·simp only [List.mem_singleton] at hx
   subst hx
   exact hg.net _ (n6 .msg hi) hk
 | tick i hi cell =>
  refine ⟨hg.srv, fun x hx hk => ?_⟩
  rcases D0 hx with hx | hx
  ·exact hg.net x hx hk
  ·obtain ⟨g, hgm, e1, e2, e3⟩ := b7v hx hk
   have hI := hf.hold i hi g hgm
   exact ⟨by rw [e2]; exact hI.zero, by rw [e1, e2]; exact hI.count, by rw [e1, e2]; have e4 := hI.state; show _ ∈ (r9 w.map (stAt w.stores g.state.cell).base (stAt w.stores g.state.cell).recs g.count.toNat).wlks; rw [← e4]; exact e3⟩
 | fall i hi => exact emp i false hi
 | rise i hi hu => exact emp i true hi
end Go.Mo
