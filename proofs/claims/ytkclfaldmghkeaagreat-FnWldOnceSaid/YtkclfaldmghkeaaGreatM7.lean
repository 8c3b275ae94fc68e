/-
  Plain laws of the one world: an order keeps it ok, and its l7; so does who comes, and what falls.
-/
import Derived.Test.YtkclfaldmghkeaaGreatM6
set_option linter.unusedVariables false
set_option linter.unusedSimpArgs false
namespace Go.Mo
open Go.Sx
structure OkOne (m : PMap) (ws : List OW) (g : List Int) (a : List (List Int)) : Prop where
 plc : n8 m = true
 gl : (g.length : Int) = m.cells
 al : (a.length : Int) = m.cells
 b4J : ∀ i, i < g.length → @LE.le Int _ 0 (nth .int g i) ∧ @LE.le Int _ (nth .int g i) 900 ∧ (nth .ints a i).length = 2 ∧ @LE.le Int _ 0 (nth .int (nth .ints a i) 0) ∧ @LE.le Int _ (nth .int (nth .ints a i) 0) 100000 ∧ @LE.le Int _ 0 (nth .int (nth .ints a i) 1) ∧ @LE.le Int _ (nth .int (nth .ints a i) 1) 100000
 ok : ∀ i, i < ws.length → O8 m (nth .ow ws i).wlk = true
 sort : ∀ i, i < ws.length → i ≠ 0 → (nth .ow ws (i - 1)).wlk.id < (nth .ow ws i).wlk.id
theorem b7j {o : One} : a8S o = true ↔ OkOne o.map o.wlks o.ground o.air := by
 rw [c1A, b4V]
 unfold b7a
 rw [j9, j9]
 constructor
 ·rintro ⟨⟨h1, h2, h3⟩, h4, h5⟩
  refine ⟨h1, h2, h3, fun i hi => ?_, fun i hi => ?_, fun i hi h0 => ?_⟩
  ·have := h4 i hi
   simp only [Mo.b4J, decide_eq_true_eq] at this
   exact this
  ·have := h5 i hi
   simp only [owAt, Bool.and_eq_true] at this
   exact this.1
  ·have := h5 i hi
   simp only [owAt, Bool.and_eq_true, Bool.or_eq_true, decide_eq_true_eq] at this
   exact this.2.resolve_left h0
 ·intro h
  refine ⟨⟨h.plc, h.gl, h.al⟩, fun i hi => ?_, fun i hi => ?_⟩
  ·have := h.b4J i hi
   simp only [Mo.b4J, decide_eq_true_eq]
   exact this
  ·have h1 := h.ok i hi
   simp only [owAt, Bool.and_eq_true, Bool.or_eq_true, decide_eq_true_eq]
   refine ⟨h1, ?_⟩
   by_cases h0 : i = 0
   ·exact .inl h0
   ·exact .inr (h.sort i hi h0)
def owC (x : OW) : Int := x.wlk.l7
def airC (l : List Int) : Int := nth .int l 0 + nth .int l 1
def idI (n : Int) : Int := n
def b2M (ws : List OW) (g : List Int) (a : List (List Int)) : Int := sumL owC ws + sumL idI g + sumL airC a
theorem c1r (l : List OW) : a8Q l l.length = sumL owC l := by
 have : ∀ k, k ≤ l.length → a8Q l k = sumK owC l k := fun k => by
  induction k with
  | zero => intro _; rw [b7f, a6r]
  | succ k ih =>
   intro hk
   rw [b7g, ih (by omega), a6s .ow owC (show k < l.length by omega)]
   rfl
 rw [this _ (Nat.le_refl _), a8u _ rfl]
theorem c2E {o : One} (h : o.air.length = o.ground.length) : a9F o o.ground.length = sumL idI o.ground + sumL airC o.air := by
 have : ∀ k, k ≤ o.ground.length → a9F o k = sumK idI o.ground k + sumK airC o.air k := fun k => by
  induction k with
  | zero => intro _; rw [b7S, a6r, a6r]; rfl
  | succ k ih =>
   intro hk
   rw [b7T, ih (by omega), a6s .int idI (show k < o.ground.length by omega), a6s .ints airC (show k < o.air.length by omega)]
   unfold idI airC
   generalize (nth .int o.ground k : Int) = a
   generalize (nth .int (nth .ints o.air k) 0 : Int) = b
   generalize (nth .int (nth .ints o.air k) 1 : Int) = c
   show sumK idI o.ground k + sumK airC o.air k + (a + b + c) = sumK idI o.ground k + a + (sumK airC o.air k + (b + c))
   omega
 rw [this _ (Nat.le_refl _), a8u _ rfl, a8u _ h.symm]
theorem b1Q {o : One} (h : a8S o = true) : a5t o = b2M o.wlks o.ground o.air := by
 have hk := b7j.1 h
 have hl : o.air.length = o.ground.length := by have := hk.gl; have := hk.al; omega
 unfold a5t b2M
 rw [if_pos h, c1r, c2E hl]
 omega
structure KeepC (o x : One) : Prop where
 ok : a8S x = true
 tot : b2M x.wlks x.ground x.air = b2M o.wlks o.ground o.air
 map : x.map = o.map
theorem KeepC.l7 {o x : One} (ho : a8S o = true) (h : KeepC o x) : a5t x = a5t o := by rw [b1Q ho, b1Q h.ok, h.tot]
def BegE (w : Wld) : Prop := ∃ l, Beg l w
theorem c3e {w : Wld} (h : BegE w) (c d : Int) : BegE (m5 (m5 w ⟨1, c, 0, d, 0⟩) ⟨4, 0, 0, 0, 0⟩) := let ⟨l, h⟩ := h; ⟨l, c6G h c d⟩
theorem b3C {w : Wld} (h : BegE w) : p9 w = true := let ⟨_, h⟩ := h; h.ok
def a5i (w : Wld) (l : List Evt) : Wld := l.foldl m5 w
def Z0 (w : Wld) (l : List Evt) (k : Nat) : Wld := a5i w (l.take k)
theorem b2C (w : Wld) (l : List Evt) : Z0 w l 0 = w := rfl
theorem a5h {w : Wld} {l : List Evt} {k : Nat} (h : k < l.length) : Z0 w l (k + 1) = m5 (Z0 w l k) (nth .evt l k) := by
 unfold Z0 a5i
 rw [List.take_succ_eq_append_getElem h, List.foldl_append, k9 .evt l k h]
 rfl
theorem b4M {w : Wld} {l : List Evt} {k : Nat} (h : l.length ≤ k) : Z0 w l k = a5i w l := by
 unfold Z0
 rw [List.take_of_length_le h]
theorem b1c {w0 w : Wld} (h : Ran w0 w) : ∀ l, Ran w0 (a5i w l)
 | [] => h
 | e :: l => b1c (.step e h) l
def From (w : Wld) : Prop := ∃ l w0, Beg l w0 ∧ Ran w0 w
theorem c6I {w : Wld} (h : BegE w) : From w := let ⟨l, h⟩ := h; ⟨l, w, h, .refl⟩
theorem b7V {w : Wld} (h : From w) (l : List Evt) : From (a5i w l) := let ⟨k, w0, h0, hr⟩ := h; ⟨k, w0, h0, b1c hr l⟩
theorem c5L {w : Wld} (h : From w) : Inv (fun _ => 0) w := by
 obtain ⟨l, w0, h0, hr⟩ := h
 have hw := c0E h0
 have hf : a7t w0.rows = fun _ => 0 := funext fun who => c0D h0 who
 rw [hf] at hw
 exact c7i hw hr
theorem b7U {w : Wld} (h : From w) : ∃ L, L.Pairwise (· < ·) ∧ Whole L (fun _ => 0) w := by
 obtain ⟨l, w0, h0, hr⟩ := h
 have hw := c3b h0
 have hf : a7t w0.rows = fun _ => 0 := funext fun who => c0D h0 who
 rw [hf] at hw
 exact ⟨_, a9v h0.all, (c1l (c2p h0.all) hw hr).1⟩
theorem a0M {w : Wld} (h : From w) : p9 w = true := (c5L h).ok
theorem b5Y {m : PMap} {s : Sto} (h : x8 m s = true) {k : Nat} (hk : k ≤ s.recs.length) : (H6 m s.base (s.recs.take k)).c = r7 m s.base s.recs k ∧ (H6 m s.base (s.recs.take k)).n = (k : Int) := by
 have hs := u0.1 h
 have hfit : l8 k (H8 m s.base (s.recs.take k)) = true := by
  rw [j9]
  intro i hi
  have hall := a2d m s.base s.recs
  rw [hs.2.2.2] at hall
  have := (j9 _ _).1 hall i (by omega)
  unfold H8 at this ⊢
  have e1 : nth .rcd (s.recs.take k) i = nth .rcd s.recs i := by
   conv => rhs; rw [← List.take_append_drop k s.recs]
   rw [a4o .rcd (by simp; omega)]
  have e2 : r7 m s.base (s.recs.take k) i = r7 m s.base s.recs i := by
   conv => rhs; rw [← List.take_append_drop k s.recs]
   rw [N8 (by simp; omega)]
  rw [e1, e2]
  exact this
 have hlen : k = (s.recs.take k).length := by simp; omega
 have hn := a3E hlen hfit
 unfold H6
 rw [if_pos ⟨hs.2.1, by have := hs.2.2.1; simp; omega⟩]
 refine ⟨?_, congrArg Nat.cast hn⟩
 show r7 m s.base (s.recs.take k) (T6 m s.base (s.recs.take k)) = _
 rw [hn]
 conv => rhs; rw [← List.take_append_drop k s.recs]
 rw [N8 (by simp; omega)]
def c5A (w : Wld) (k j : Nat) : Hld := nth .hld (nth .srv w.servers k).holds j
structure Alone (w : Wld) (A : List Int) (k j : Nat) : Prop where
 len : A.length = w.stores.length
 one : ∀ c, c < w.stores.length → (@Eq Int (nth .int A c) 0 ∨ @Eq Int (nth .int A c) 1) ∧ (@Eq Int (nth .int A c) 1 → ∃ k' j', (k' < k ∨ k' = k ∧ j' < j) ∧ k' < w.servers.length ∧ j' < (nth .srv w.servers k').holds.length ∧ (c5A w k' j').state.cell = (c : Int) ∧ (c5A w k' j').age = (nth .sto w.stores c).age)
def cntW (st : List Sto) (who seq : Int) : Nat → Nat
 | 0 => 0
 | k + 1 => cntW st who seq k + S4 (nth .sto st k).recs who seq
def O9 (w : Wld) (who seq : Int) : Nat := if p9 w = true then cntW w.stores who seq w.stores.length else 0
def X8 (l : List Rec) (who seq : Int) (i : Nat) : Prop := (nth .rcd l i).kind = 1 ∧ (nth .rcd l i).ord.who = who ∧ (nth .rcd l i).ord.seq = seq
theorem a6a {l : List Rec} {who seq : Int} : ∀ {k : Nat}, k ≤ l.length → (∀ i, i < k → ¬ X8 l who seq i) → a0l l who seq k = 0
 | 0, _, _ => a4z ..
 | k + 1, hk, h => by
  rw [a6b (by omega) (h k (by omega))]
  exact a6a (by omega) fun i hi => h i (by omega)
theorem c0z {l : List Rec} {who seq : Int} {j : Nat} (hj : X8 l who seq j) : ∀ {k : Nat}, k ≤ l.length → j < k → (∀ i, i < k → X8 l who seq i → i = j) → a0l l who seq k = 1
 | 0, _, h, _ => by omega
 | k + 1, hk, hl, h => by
  by_cases he : j = k
  ·subst he
   rw [a7f (by omega) hj, a6a (by omega) fun i hi ho => by have := h i (by omega) ho; omega]
  ·rw [a6b (by omega) fun ho => he (h k (by omega) ho).symm]
   exact c0z hj (by omega) (by omega) fun i hi => h i (by omega)
theorem b1R {st : List Sto} {who seq : Int} : ∀ {k : Nat}, (∀ c, c < k → ∀ i, i < (nth .sto st c).recs.length → ¬ X8 (nth .sto st c).recs who seq i) → cntW st who seq k = 0
 | 0, _ => rfl
 | k + 1, h => by
  rw [cntW, b1R fun c hc => h c (by omega), S4, a6a (Nat.le_refl _) (h k (by omega))]
theorem b6k {st : List Sto} {who seq : Int} {c j : Nat} (hj : X8 (nth .sto st c).recs who seq j) (hl : j < (nth .sto st c).recs.length) : ∀ {k : Nat}, c < k → (∀ c' i, c' < k → i < (nth .sto st c').recs.length → X8 (nth .sto st c').recs who seq i → c' = c ∧ i = j) → cntW st who seq k = 1
 | 0, h, _ => by omega
 | k + 1, hk, h => by
  rw [cntW]
  by_cases he : c = k
  ·subst he
   rw [b1R fun c' hc' i hi ho => by have := (h c' i (by omega) hi ho).1; omega, S4, c0z hj (Nat.le_refl _) hl fun i hi ho => (h c i (by omega) hi ho).2]
  ·rw [b6k hj hl (by omega) fun c' i hc' => h c' i (by omega), S4, a6a (Nat.le_refl _) fun i hi ho => he (h k i (by omega) hi ho).1.symm]
theorem c0A {st : List Sto} {who seq : Int} (h : ∀ c, c < st.length → (nth .sto st c).recs.length ≤ 250) : ∀ {k : Nat}, k ≤ st.length → cntW st who seq k ≤ 250 * k
 | 0, _ => Nat.le_refl _
 | k + 1, hk => by
  have h1 := c0A (who := who) (seq := seq) h (k := k) (by omega)
  have h2 := h k (by omega)
  have h3 := a9Y (nth .sto st k).recs who seq (nth .sto st k).recs.length
  rw [cntW, S4]
  omega
theorem c2U (st : List Sto) (who seq : Int) (k : Nat) : cntW st who seq (k + 1) = cntW st who seq k + S4 (nth .sto st k).recs who seq := rfl
theorem Y7 {w : Wld} (h : p9 w = true) : w.stores.length ≤ 4 ∧ (w.stores.length : Int) = w.map.cells ∧ ∀ c, c < w.stores.length → x8 w.map (nth .sto w.stores c) = true ∧ (nth .sto w.stores c).recs.length ≤ 250 := by
 have h1 := a4O (n7.1 h).2.1
 have h2 := r6.1 h1.2
 have h3 := B4.1 (n7.1 h).2.1
 refine ⟨by omega, h1.1, fun c hc => ?_⟩
 have := (h3.2.2 c hc)
 exact ⟨this.1, (u0.1 this.1).2.2.1⟩
theorem a7b {w : Wld} (h : From w) : Once w := by
 obtain ⟨L, hL, hw⟩ := b7U h
 exact hw.once
theorem a5Z {m : PMap} {st : List Sto} {c : Int} {i : Nat} {who seq code : Int} (h : Done m st c i who seq code) : X8 (nth .sto st c.toNat).recs who seq i := ⟨h.kind, h.who, h.seq⟩
theorem b1i {w : Wld} (hok : p9 w = true) (h : Once w) {c c' i i' : Nat} {who seq : Int} (hc : c < w.stores.length) (hc' : c' < w.stores.length) (hi : i < (nth .sto w.stores c).recs.length) (hi' : i' < (nth .sto w.stores c').recs.length)
  (ho : X8 (nth .sto w.stores c).recs who seq i) (ho' : X8 (nth .sto w.stores c').recs who seq i') : c = c' ∧ i = i' := by
 have hf := Y7 hok
 have := h.uniq (c : Int) i (c' : Int) i' (by omega) (by omega) (by omega) (by omega) hi hi' ho.1 ho'.1 (by rw [show (recX w.stores (c : Int) i).ord.who = who from ho.2.1, show (recX w.stores (c' : Int) i').ord.who = who from ho'.2.1]) (by rw [show (recX w.stores (c : Int) i).ord.seq = seq from ho.2.2, show (recX w.stores (c' : Int) i').ord.seq = seq from ho'.2.2])
 exact ⟨by omega, this.2⟩
theorem b1N {w : Wld} (h : From w) {c i : Nat} {who seq : Int} (hc : c < w.stores.length) (hi : i < (nth .sto w.stores c).recs.length) (ho : X8 (nth .sto w.stores c).recs who seq i) : O9 w who seq = 1 := by
 have hok := a0M h
 rw [O9, if_pos hok]
 exact b6k ho hi hc fun c' i' hc' hi' ho' => by
  have := b1i hok (a7b h) hc hc' hi hi' ho ho'
  omega
noncomputable def a4B (w : Wld) (who seq : Int) : Int := open Classical in if h : ∃ code, Was w.map w.stores who seq code then h.choose else 0
theorem c0B {w : Wld} (h : From w) {c : Int} {i : Nat} {who seq code : Int} (hd : Done w.map w.stores c i who seq code) : a4B w who seq = code := by
 have hx : ∃ code, Was w.map w.stores who seq code := ⟨code, c, i, hd⟩
 unfold a4B
 rw [dif_pos hx]
 obtain ⟨c', i', hd'⟩ := hx.choose_spec
 have hok := a0M h
 have hf := Y7 hok
 have e := b1i hok (a7b h) (c := c.toNat) (c' := c'.toNat) (by have := hd.zero; have := hd.cell; omega) (by have := hd'.zero; have := hd'.cell; omega) hd.lt hd'.lt (a5Z hd) (a5Z hd')
 have ec : c = c' := by have := hd.zero; have := hd'.zero; omega
 rw [← hd'.code, ← hd.code, ← ec, ← e.2]
theorem c8m {w : Wld} (h : From w) {c i : Nat} {who seq : Int} (hc : c < w.stores.length) (hi : i < (nth .sto w.stores c).recs.length) (ho : X8 (nth .sto w.stores c).recs who seq i) :
  q9 w.map (H6 w.map (nth .sto w.stores c).base ((nth .sto w.stores c).recs.take i)).c = true ∧ D1 w.map (nth .rcd (nth .sto w.stores c).recs i) = true ∧
  (F5 w.map (H6 w.map (nth .sto w.stores c).base ((nth .sto w.stores c).recs.take i)).c (nth .rcd (nth .sto w.stores c).recs i)).code = a4B w who seq := by
 have hok := a0M h
 have hf := Y7 hok
 have hs := hf.2.2 c hc
 have hf1 := (b5Y hs.1 (k := i) (by omega)).1
 have hst := u0.1 hs.1
 have hall := a2d w.map (nth .sto w.stores c).base (nth .sto w.stores c).recs
 rw [hst.2.2.2] at hall
 have hfi := (j9 _ _).1 hall i hi
 have h1 : q9 w.map (r7 w.map (nth .sto w.stores c).base (nth .sto w.stores c).recs i) = true := a3D hst.2.1 ((j9 _ _).2 fun j hj => (j9 _ _).1 hall j (by omega))
 simp only [H8, Bool.and_eq_true] at hfi
 rw [hf1]
 refine ⟨h1, hfi.1, ?_⟩
 rw [F5, if_pos ⟨h1, hfi.1⟩]
 symm
 exact c0B h (c := (c : Int)) (i := i) ⟨by omega, by omega, hi, ho.1, ho.2.1, ho.2.2, rfl⟩
theorem c2b {w : Wld} (h : From w) {i : Nat} (hi : i < w.notes.length) : O9 w (nth .note w.notes i).who (nth .note w.notes i).seq = 1 ∧ a4B w (nth .note w.notes i).who (nth .note w.notes i).seq = (nth .note w.notes i).code ∧
  ∃ c j, c < w.stores.length ∧ j < (nth .sto w.stores c).recs.length ∧ X8 (nth .sto w.stores c).recs (nth .note w.notes i).who (nth .note w.notes i).seq j := by
 have hok := a0M h
 have hf := Y7 hok
 obtain ⟨c, j, hd⟩ := (a7b h).notes _ (r8 .note hi)
 have hc : c.toNat < w.stores.length := by have := hd.zero; have := hd.cell; omega
 exact ⟨b1N h hc hd.lt (a5Z hd), c0B h hd, c.toNat, j, hc, hd.lt, a5Z hd⟩
end Go.Mo
