/-
  Plain laws of the one world: an order keeps it ok, and its l7; so does who comes, and what falls.
-/
import Derived.Test.YtkclfaldmghkeaaGreatM6
set_option linter.unusedVariables false
set_option linter.unusedSimpArgs false
namespace Go.Mo
open Go.Sx
structure OkOne (m : PMap) (ws : List OW) (g : List Int) (a : List (List Int)) : Prop where
 plc : o8 m = true
 gl : (g.length : Int) = m.cells
 al : (a.length : Int) = m.cells
 b5A : ∀ i, i < g.length → @LE.le Int _ 0 (nth .int g i) ∧ @LE.le Int _ (nth .int g i) 900 ∧ (nth .ints a i).length = 2 ∧ @LE.le Int _ 0 (nth .int (nth .ints a i) 0) ∧ @LE.le Int _ (nth .int (nth .ints a i) 0) 100000 ∧ @LE.le Int _ 0 (nth .int (nth .ints a i) 1) ∧ @LE.le Int _ (nth .int (nth .ints a i) 1) 100000
 ok : ∀ i, i < ws.length → P8 m (nth .ow ws i).wlk = true
 sort : ∀ i, i < ws.length → i ≠ 0 → (nth .ow ws (i - 1)).wlk.id < (nth .ow ws i).wlk.id
theorem b8c {o : One} : a9v o = true ↔ OkOne o.map o.wlks o.ground o.air := by
 rw [c2y, b5M]
 unfold b7T
 rw [k9, k9]
 constructor
 ·rintro ⟨⟨h1, h2, h3⟩, h4, h5⟩
  refine ⟨h1, h2, h3, fun i hi => ?_, fun i hi => ?_, fun i hi h0 => ?_⟩
  ·have := h4 i hi
   simp only [Mo.b5A, decide_eq_true_eq] at this
   exact this
  ·have := h5 i hi
   simp only [owAt, Bool.and_eq_true] at this
   exact this.1
  ·have := h5 i hi
   simp only [owAt, Bool.and_eq_true, Bool.or_eq_true, decide_eq_true_eq] at this
   exact this.2.resolve_left h0
 ·intro h
  refine ⟨⟨h.plc, h.gl, h.al⟩, fun i hi => ?_, fun i hi => ?_⟩
  ·have := h.b5A i hi
   simp only [Mo.b5A, decide_eq_true_eq]
   exact this
  ·have h1 := h.ok i hi
   simp only [owAt, Bool.and_eq_true, Bool.or_eq_true, decide_eq_true_eq]
   refine ⟨h1, ?_⟩
   by_cases h0 : i = 0
   ·exact .inl h0
   ·exact .inr (h.sort i hi h0)
def owC (x : OW) : Int := x.wlk.l7
def airC (l : List Int) : Int := nth .int l 0 + nth .int l 1
def idI (n : Int) : Int := n
def b3A (ws : List OW) (g : List Int) (a : List (List Int)) : Int := sumL owC ws + sumL idI g + sumL airC a
theorem c2n (l : List OW) : a9t l l.length = sumL owC l := by
 have : ∀ k, k ≤ l.length → a9t l k = sumK owC l k := fun k => by
  induction k with
  | zero => intro _; rw [b7Y, a6S]
  | succ k ih =>
   intro hk
   rw [b7Z, ih (by omega), a6T .ow owC (show k < l.length by omega)]
   rfl
 rw [this _ (Nat.le_refl _), a8W _ rfl]
theorem gaSum_all {o : One} (h : o.air.length = o.ground.length) : b0l o o.ground.length = sumL idI o.ground + sumL airC o.air := by
 have : ∀ k, k ≤ o.ground.length → b0l o k = sumK idI o.ground k + sumK airC o.air k := fun k => by
  induction k with
  | zero => intro _; rw [b8P, a6S, a6S]; rfl
  | succ k ih =>
   intro hk
   rw [b8Q, ih (by omega), a6T .int idI (show k < o.ground.length by omega), a6T .ints airC (show k < o.air.length by omega)]
   unfold idI airC
   generalize (nth .int o.ground k : Int) = a
   generalize (nth .int (nth .ints o.air k) 0 : Int) = b
   generalize (nth .int (nth .ints o.air k) 1 : Int) = c
   show sumK idI o.ground k + sumK airC o.air k + (a + b + c) = sumK idI o.ground k + a + (sumK airC o.air k + (b + c))
   omega
 rw [this _ (Nat.le_refl _), a8W _ rfl, a8W _ h.symm]
theorem b2z {o : One} (h : a9v o = true) : a5U o = b3A o.wlks o.ground o.air := by
 have hk := b8c.1 h
 have hl : o.air.length = o.ground.length := by have := hk.gl; have := hk.al; omega
 unfold a5U b3A
 rw [if_pos h, c2n, gaSum_all hl]
 omega
structure KeepC (o x : One) : Prop where
 ok : a9v x = true
 tot : b3A x.wlks x.ground x.air = b3A o.wlks o.ground o.air
 map : x.map = o.map
theorem KeepC.l7 {o x : One} (ho : a9v o = true) (h : KeepC o x) : a5U x = a5U o := by rw [b2z ho, b2z h.ok, h.tot]
def BegE (w : Wld) : Prop := ∃ l, Beg l w
theorem begE_step {w : Wld} (h : BegE w) (c d : Int) : BegE (m0 (m0 w ⟨1, c, 0, d, 0⟩) ⟨4, 0, 0, 0, 0⟩) := let ⟨l, h⟩ := h; ⟨l, beg_step h c d⟩
theorem a2C {w : Wld} (h : BegE w) : o6 w = true := let ⟨_, h⟩ := h; h.ok
def J8 (w : Wld) (l : List Evt) : Wld := l.foldl m0 w
def a0h (w : Wld) (l : List Evt) (k : Nat) : Wld := J8 w (l.take k)
theorem b3p (w : Wld) (l : List Evt) : a0h w l 0 = w := rfl
theorem a5I {w : Wld} {l : List Evt} {k : Nat} (h : k < l.length) : a0h w l (k + 1) = m0 (a0h w l k) (nth .evt l k) := by
 unfold a0h J8
 rw [List.take_succ_eq_append_getElem h, List.foldl_append, k8 .evt l k h]
 rfl
theorem b5D {w : Wld} {l : List Evt} {k : Nat} (h : l.length ≤ k) : a0h w l k = J8 w l := by
 unfold a0h
 rw [List.take_of_length_le h]
theorem b1M {w0 w : Wld} (h : Ran w0 w) : ∀ l, Ran w0 (J8 w l)
 | [] => h
 | e :: l => b1M (.step e h) l
def From (w : Wld) : Prop := ∃ l w0, Beg l w0 ∧ Ran w0 w
theorem a6F {w : Wld} (h : BegE w) : From w := let ⟨l, h⟩ := h; ⟨l, w, h, .refl⟩
theorem a4W {w : Wld} (h : From w) (l : List Evt) : From (J8 w l) := let ⟨k, w0, h0, hr⟩ := h; ⟨k, w0, h0, b1M hr l⟩
theorem a1V {w : Wld} (h : From w) : Inv (fun _ => 0) w := by
 obtain ⟨l, w0, h0, hr⟩ := h
 have hw := c1A h0
 have hf : a7U w0.rows = fun _ => 0 := funext fun who => c1z h0 who
 rw [hf] at hw
 exact ran_inv hw hr
theorem H0 {w : Wld} (h : From w) : o6 w = true := (a1V h).ok
theorem a3x {m : PMap} {s : Sto} (h : y4 m s = true) {k : Nat} (hk : k ≤ s.recs.length) : (y6 m s.base (s.recs.take k)).c = r9 m s.base s.recs k ∧ (y6 m s.base (s.recs.take k)).n = (k : Int) := by
 have hs := s8.1 h
 have hfit : m4 k (H3 m s.base (s.recs.take k)) = true := by
  rw [k9]
  intro i hi
  have hall := a0E m s.base s.recs
  rw [hs.2.2.2] at hall
  have := (k9 _ _).1 hall i (by omega)
  unfold H3 at this ⊢
  have e1 : nth .rcd (s.recs.take k) i = nth .rcd s.recs i := by
   conv => rhs; rw [← List.take_append_drop k s.recs]
   rw [a4N .rcd (by simp; omega)]
  have e2 : r9 m s.base (s.recs.take k) i = r9 m s.base s.recs i := by
   conv => rhs; rw [← List.take_append_drop k s.recs]
   rw [O6 (by simp; omega)]
  rw [e1, e2]
  exact this
 have hlen : k = (s.recs.take k).length := by simp; omega
 have hn := a4e hlen hfit
 unfold y6
 rw [if_pos ⟨hs.2.1, by have := hs.2.2.1; simp; omega⟩]
 refine ⟨?_, congrArg Nat.cast hn⟩
 show r9 m s.base (s.recs.take k) (S6 m s.base (s.recs.take k)) = _
 rw [hn]
 conv => rhs; rw [← List.take_append_drop k s.recs]
 rw [O6 (by simp; omega)]
def x7 (w : Wld) (k j : Nat) : Hld := nth .hld (nth .srv w.servers k).holds j
structure Alone (w : Wld) (A : List Int) (k j : Nat) : Prop where
 len : A.length = w.stores.length
 one : ∀ c, c < w.stores.length → (@Eq Int (nth .int A c) 0 ∨ @Eq Int (nth .int A c) 1) ∧ (@Eq Int (nth .int A c) 1 → ∃ k' j', (k' < k ∨ k' = k ∧ j' < j) ∧ k' < w.servers.length ∧ j' < (nth .srv w.servers k').holds.length ∧ (x7 w k' j').state.cell = (c : Int) ∧ (x7 w k' j').age = (nth .sto w.stores c).age)
end Go.Mo
