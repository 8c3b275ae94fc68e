/-
  Plain law: in a log that fits no order stands twice.
-/
import Derived.Test.YtkclfaldmghkeaaGreatM1
import Derived.Test.YtkclfaldmghkeaaGreatS5
set_option linter.unusedVariables false
set_option linter.unusedSimpArgs false
namespace Go.Mo
open Go.Sx
def past (c : Cll) (who seq : Int) : Prop := ∀ v ∈ c.wlks, v.id = who → seq ≤ v.seq
def W8 : Sto := ⟨0, O7, []⟩
def a2j : Hld := ⟨0, 0, O7⟩
def x8 (m : PMap) (s : Sto) : Bool := decide (0 ≤ s.age ∧ s.age ≤ 900 ∧ q9 m s.base = true ∧ s.recs.length ≤ 250 ∧ T6 m s.base s.recs = s.recs.length)
theorem u0 {m : PMap} {s : Sto} : x8 m s = true ↔ (0 ≤ s.age ∧ s.age ≤ 900) ∧ q9 m s.base = true ∧ s.recs.length ≤ 250 ∧ T6 m s.base s.recs = s.recs.length := by simp [x8, and_assoc]
def p5 (m : PMap) (s : Sto) : Cll := a1x m s.base s.recs
def U6 (m : PMap) (s : Sto) : Cll := if x8 m s = true then p5 m s else O7
theorem a2y {m : PMap} {s : Sto} (h : x8 m s = true) : q9 m (p5 m s) = true := c5P (u0.1 h).2.1
structure SOk where
 s : Sto
 ok : Bool
def P0 (m : PMap) (s : Sto) (age : Int) : SOk :=
 if x8 m s = true ∧ 0 ≤ age ∧ age ≤ 900 then (if age < s.age then ⟨s, false⟩ else ⟨⟨age, s.base, s.recs⟩, true⟩) else ⟨W8, false⟩
structure SN where
 s : Sto
 n : Int
def G4 (m : PMap) (s : Sto) (age pos : Int) (r : Rec) : SN :=
 if ¬ age = s.age then ⟨s, 2⟩
 else if ¬ pos = (s.recs.length : Int) ∨ pos = 250 then ⟨s, 3⟩
 else if D1 m r = true ∧ (j7 m (p5 m s) r).ok = true then ⟨⟨s.age, s.base, s.recs ++ [r]⟩, 1⟩
 else ⟨s, 4⟩
def u7 (m : PMap) (s : Sto) (age pos : Int) (r : Rec) : SN := if x8 m s = true then G4 m s age pos r else ⟨W8, 0⟩
def N3 (m : PMap) (h : Hld) : Bool := decide (1 ≤ h.age ∧ h.age ≤ 900 ∧ 0 ≤ h.count ∧ h.count ≤ 250 ∧ q9 m h.state = true)
theorem y5 {m : PMap} {h : Hld} : N3 m h = true ↔ (1 ≤ h.age ∧ h.age ≤ 900) ∧ (0 ≤ h.count ∧ h.count ≤ 250) ∧ q9 m h.state = true := by simp [N3, and_assoc]
structure HSO where
 h : Hld
 s : Sto
 ok : Bool
def S7 (m : PMap) (s : Sto) (age : Int) : HSO :=
 if x8 m s = true ∧ 1 ≤ age ∧ age ≤ 900 then (if age < s.age then ⟨a2j, s, false⟩ else ⟨⟨age, s.recs.length, p5 m s⟩, ⟨age, s.base, s.recs⟩, true⟩) else ⟨a2j, W8, false⟩
structure HSN where
 h : Hld
 s : Sto
 n : Int
 k : Int
def s6 (m : PMap) (h : Hld) (s : Sto) (r : Rec) : HSN :=
 if N3 m h = true ∧ x8 m s = true then
  (if ¬ (G4 m s h.age h.count r).n = 1 then ⟨h, s, (G4 m s h.age h.count r).n, 0⟩
  else if (j7 m h.state r).ok = false then ⟨h, s, 4, 0⟩
  else ⟨⟨h.age, h.count + 1, (j7 m h.state r).c⟩, (G4 m s h.age h.count r).s, 1, (j7 m h.state r).code⟩)
 else ⟨a2j, W8, 0, 0⟩
theorem b2X (t : RT) {l : List t.ty} {x : t.ty} {k : Nat} (h : k < l.length) : nth t (l ++ [x]) k = nth t l k := by
 rw [k9 t l k h, k9 t _ k (by simp; omega), List.getElem_append_left h]
theorem a5A (t : RT) {l : List t.ty} {x : t.ty} : nth t (l ++ [x]) l.length = x := by simp [nth, List.getD]
theorem a2c {m : PMap} {c : Cll} {l : List Rec} {r : Rec} : ∀ {k : Nat}, k ≤ l.length → r7 m c (l ++ [r]) k = r7 m c l k
 | 0, _ => rfl
 | k + 1, h => by rw [J8, J8, a2c (by omega), b2X .rcd (by omega)]
theorem c2M {m : PMap} {c : Cll} {l : List Rec} {r : Rec} {k : Nat} (h : k < l.length) : H8 m c (l ++ [r]) k = H8 m c l k := by
 unfold H8
 rw [a2c (by omega), b2X .rcd h]
theorem b6a {m : PMap} {c : Cll} {l : List Rec} (h : T6 m c l = l.length) : l8 l.length (H8 m c l) = true := by
 have := a2d m c l
 rw [h] at this
 exact this
theorem a3F {m : PMap} {c : Cll} {l : List Rec} (h : T6 m c l = l.length) : a1x m c l = r7 m c l l.length := by rw [a1x, h]
theorem b1H {m : PMap} {c : Cll} {l : List Rec} {r : Rec} (h : T6 m c l = l.length) (hr : D1 m r = true) (ha : (j7 m (a1x m c l) r).ok = true) : T6 m c (l ++ [r]) = (l ++ [r]).length := by
 have h1 := b6a h
 refine a3E rfl ?_
 rw [List.length_append, List.length_singleton, m7, Bool.and_eq_true]
 refine ⟨?_, ?_⟩
 ·rw [j9] at h1 ⊢
  intro i hi
  rw [c2M hi]
  exact h1 i hi
 ·unfold H8
  rw [a2c (Nat.le_refl _), a5A .rcd, ← a3F h, hr, ha]
  rfl
theorem c2I {m : PMap} {c : Cll} {l : List Rec} {r : Rec} (h : T6 m c l = l.length) (hr : D1 m r = true) (ha : (j7 m (a1x m c l) r).ok = true) : a1x m c (l ++ [r]) = (j7 m (a1x m c l) r).c := by
 rw [a3F (b1H h hr ha), List.length_append, List.length_singleton, J8, a2c (Nat.le_refl _), a5A .rcd, ← a3F h]
theorem a1B (m : PMap) (s : Sto) (age pos : Int) (r : Rec) : ((G4 m s age pos r).s = s ∧ ((G4 m s age pos r).n = 2 ∧ age ≠ s.age ∨ (G4 m s age pos r).n = 3 ∧ age = s.age ∧ (pos ≠ s.recs.length ∨ pos = 250) ∨ (G4 m s age pos r).n = 4 ∧ age = s.age ∧ ¬ (D1 m r = true ∧ (j7 m (p5 m s) r).ok = true))) ∨
  ((G4 m s age pos r).s = ⟨s.age, s.base, s.recs ++ [r]⟩ ∧ (G4 m s age pos r).n = 1 ∧ age = s.age ∧ pos = s.recs.length ∧ pos ≠ 250 ∧ D1 m r = true ∧ (j7 m (p5 m s) r).ok = true) := by
 unfold G4
 split
 ·exact .inl ⟨rfl, .inl ⟨rfl, by assumption⟩⟩
 split
 ·rename_i h1 h2
  exact .inl ⟨rfl, .inr (.inl ⟨rfl, Classical.not_not.1 h1, h2⟩)⟩
 split
 ·rename_i h1 h2 h3
  exact .inr ⟨rfl, rfl, Classical.not_not.1 h1, by omega, by omega, h3.1, h3.2⟩
 ·rename_i h1 h2 h3
  exact .inl ⟨rfl, .inr (.inr ⟨rfl, Classical.not_not.1 h1, h3⟩)⟩
theorem apX {m : PMap} {c : Cll} {r : Rec} (hc : q9 m c = true) (hr : D1 m r = true) : F5 m c r = j7 m c r := by rw [F5, if_pos ⟨hc, hr⟩]
theorem b2p {m : PMap} {s : Sto} (h : x8 m s = true) : U6 m s = p5 m s := by rw [U6, if_pos h]
theorem a0p {m : PMap} {s : Sto} {a b : Int} {r : Rec} (h : x8 m s = true) : u7 m s a b r = G4 m s a b r := by rw [u7, if_pos h]
theorem b8o {m : PMap} {s : Sto} {a b : Int} {r : Rec} (h : x8 m s = true) (hn : ¬ (u7 m s a b r).n = 1) : (u7 m s a b r).s = s := by
 rw [a0p h] at *
 rcases a1B m s a b r with ⟨h1, h2⟩ | ⟨h1, h2, _⟩
 ·exact h1
 ·exact absurd h2 hn
theorem c6N {m : PMap} {s : Sto} {a : Int} (h : x8 m s = true) (h1 : 0 ≤ a) (h2 : a ≤ 900) : x8 m ⟨a, s.base, s.recs⟩ = true ∧ U6 m ⟨a, s.base, s.recs⟩ = U6 m s := by
 have h3 := u0.1 h
 have h4 : x8 m ⟨a, s.base, s.recs⟩ = true := u0.2 ⟨⟨h1, h2⟩, h3.2⟩
 exact ⟨h4, by rw [b2p h, b2p h4]; rfl⟩
theorem b2e {m : PMap} {h : Hld} {s : Sto} {r : Rec} (hh : N3 m h = true) (hs : x8 m s = true) (ha : ¬ h.age = s.age) : (s6 m h s r).h = h ∧ (s6 m h s r).s = s ∧ (s6 m h s r).n = 2 := by
 have e : G4 m s h.age h.count r = ⟨s, 2⟩ := by rw [G4, if_pos ha]
 rw [s6, if_pos ⟨hh, hs⟩, e, if_pos (fun hh : (2 : Int) = 1 => by cases hh)]
 exact ⟨rfl, rfl, rfl⟩
def Y3 (m : PMap) (g : Gst) : Bool := decide (0 ≤ g.count ∧ g.count ≤ 250 ∧ O8 m g.wlk = true ∧ l6 m g.wlk.pos = g.src ∧ (H4 m g.wlk.pos 0 = true ∨ H4 m g.wlk.pos 1 = true))
def C8 (a b : Gst) : Bool := decide (a.src < b.src ∨ a.src = b.src ∧ a.wlk.id < b.wlk.id)
def a1v (m : PMap) (l : List Gst) (i : Nat) : Bool := Y3 m (nth .gst l i) && (decide (i = 0) || C8 (nth .gst l (i - 1)) (nth .gst l i))
def A9 (m : PMap) (l : List Gst) : Bool := decide (l.length ≤ 20) && l8 l.length (a1v m l)
def Q3 (m : PMap) (l : List Gst) : Bool := n8 m && A9 m l
theorem b1B {m : PMap} {l : List Gst} {k : Nat} (h : k < l.length) (hw : Y3 m (nth .gst l k) = false) : A9 m l = false := by
 have := s0 (f := a1v m l) h (by simp [a1v, hw])
 simp [A9, this]
theorem b1A {m : PMap} {l : List Gst} {k : Nat} (h : k < l.length) (h0 : 0 < k) (hw : C8 (nth .gst l (k - 1)) (nth .gst l k) = false) : A9 m l = false := by
 have := s0 (f := a1v m l) h (by simp [a1v, hw]; omega)
 simp [A9, this]
theorem a6Z {m : PMap} {l : List Gst} (h : 20 < l.length) : A9 m l = false := by
 simp [A9]
 omega
theorem b5M {m : PMap} {l : List Gst} {k : Nat} (h : l8 k (a1v m l) = true) (hk : k = l.length) (hl : l.length ≤ 20) : A9 m l = true := by
 subst hk
 simp [A9, h, hl]
def a2p (t : Arb) (servers : Int) (i : Nat) : Bool := decide (-1 ≤ nth .int t.servers i ∧ nth .int t.servers i ≤ servers - 1 ∧ 0 ≤ nth .int t.ages i ∧ nth .int t.ages i ≤ 900 ∧ (nth .int t.servers i = -1 ↔ nth .int t.ages i = 0))
def U2 (m : PMap) (t : Arb) (servers : Int) : Bool := decide (n8 m = true ∧ 1 ≤ servers ∧ servers ≤ 3 ∧ (t.servers.length : Int) = m.cells ∧ (t.ages.length : Int) = m.cells)
def z5 (m : PMap) (t : Arb) (servers : Int) : Bool := U2 m t servers && l8 t.servers.length (a2p t servers)
theorem c0G {m : PMap} {t : Arb} {servers : Int} {k : Nat} (h : k < t.servers.length) (hw : a2p t servers k = false) : z5 m t servers = false := by
 have := s0 (f := a2p t servers) h hw
 simp [z5, this]
theorem a7h {m : PMap} {t : Arb} {servers : Int} {k : Nat} (h : z5 m t servers = true) (hk : k < t.servers.length) : -1 ≤ nth .int t.servers k ∧ nth .int t.servers k ≤ servers - 1 ∧ 0 ≤ nth .int t.ages k ∧ nth .int t.ages k ≤ 900 ∧ (nth .int t.servers k = -1 ↔ nth .int t.ages k = 0) := by
 unfold z5 at h
 rw [Bool.and_eq_true] at h
 have := (j9 _ _).1 h.2 k hk
 simpa [a2p] using this
theorem b0k {m : PMap} {t : Arb} {servers : Int} {k : Nat} (h : z5 m t servers = true) (hk : (k : Int) < m.cells) : -1 ≤ nth .int t.servers k ∧ nth .int t.servers k ≤ servers - 1 ∧ 0 ≤ nth .int t.ages k ∧ nth .int t.ages k ≤ 900 ∧ (nth .int t.servers k = -1 ↔ nth .int t.ages k = 0) := by
 refine a7h h ?_
 unfold z5 at h
 rw [Bool.and_eq_true] at h
 have h1 := h.1
 simp only [U2, decide_eq_true_eq] at h1
 omega
theorem c0H {m : PMap} {t : Arb} {servers : Int} {k : Nat} (h : l8 k (a2p t servers) = true) (hh : U2 m t servers = true) (hk : k = t.servers.length) : z5 m t servers = true := by
 subst hk
 simp [z5, h, hh]
def n4 (t : Arb) (cell : Int) : Int := if 0 ≤ cell ∧ cell < (t.servers.length : Int) then nth .int t.servers cell.toNat else -1
def a1D (g : Gst) : Bool := decide (g.src = 0 ∧ g.count = 0 ∧ a2r g.wlk = true)
def E0 (m : PMap) (servers : Int) (x : Msg) : Bool := decide (
 (x.kind = 1 ∧ 0 ≤ x.dest ∧ x.dest ≤ servers - 1 ∧ x.side = 0 ∧ 1 ≤ x.n ∧ x.n ≤ 900 ∧ a0u x.ord = true ∧ a2i x.pcl = true ∧ a1D x.gst = true) ∨
 (x.kind = 2 ∧ 0 ≤ x.dest ∧ x.dest ≤ servers - 1 ∧ x.side = 0 ∧ x.n = 0 ∧ J6 x.ord = true ∧ a2i x.pcl = true ∧ a1D x.gst = true) ∨
 (x.kind = 3 ∧ x.dest = -1 ∧ x.side = 0 ∧ 1 ≤ x.n ∧ x.n ≤ 9 ∧ J6 x.ord = true ∧ a2i x.pcl = true ∧ a1D x.gst = true) ∨
 (x.kind = 4 ∧ x.dest = -1 ∧ x.side = 0 ∧ x.n = 0 ∧ J6 x.ord = true ∧ a2i x.pcl = true ∧ a1D x.gst = true) ∨
 (x.kind = 5 ∧ 0 ≤ x.dest ∧ x.dest ≤ servers - 1 ∧ b6 m x.cell x.side ≠ -1 ∧ x.n = 0 ∧ a0u x.ord = true ∧ H5 m x.pcl = true ∧ a1D x.gst = true) ∨
 (x.kind = 6 ∧ 0 ≤ x.dest ∧ x.dest ≤ servers - 1 ∧ b6 m x.cell x.side ≠ -1 ∧ 1 ≤ x.n ∧ x.n ≤ 5000 ∧ a0u x.ord = true ∧ a2i x.pcl = true ∧ a1D x.gst = true) ∨
 (x.kind = 7 ∧ 0 ≤ x.dest ∧ x.dest ≤ servers - 1 ∧ b6 m x.cell x.side ≠ -1 ∧ x.n = 0 ∧ a0u x.ord = true ∧ a2i x.pcl = true ∧ Y3 m x.gst = true ∧ x.gst.src = b6 m x.cell x.side))
def s9 (m : PMap) (servers : Int) (x : Msg) : Bool := decide (n8 m = true ∧ 1 ≤ servers ∧ servers ≤ 3 ∧ 0 ≤ x.cell ∧ x.cell < m.cells ∧ E0 m servers x = true)
def R7 (m : PMap) (r : Row) : Bool := decide (1 ≤ r.who ∧ r.who ≤ 9 ∧ 0 ≤ r.cell ∧ r.cell < m.cells ∧ 0 ≤ r.seq ∧ r.seq ≤ 900 ∧ 0 ≤ r.code ∧ r.code ≤ 9 ∧ (r.busy = false → a0u r.ord = true) ∧ (r.busy = true → J6 r.ord = true ∧ r.ord.who = r.who ∧ r.ord.seq = r.seq + 1))
def H7 (m : PMap) (l : List Row) (i : Nat) : Bool := R7 m (nth .row l i) && (decide (i = 0) || decide ((nth .row l (i - 1)).who < (nth .row l i).who))
def y6 (m : PMap) (l : List Row) : Bool := n8 m && l8 l.length (H7 m l)
theorem b5K {m : PMap} {l : List Row} {k : Nat} (h : k < l.length) (hw : R7 m (nth .row l k) = false) : y6 m l = false := by
 have := s0 (f := H7 m l) h (by simp [H7, hw])
 simp [y6, this]
theorem b5J {m : PMap} {l : List Row} {k : Nat} (h : k < l.length) (h0 : 0 < k) (hw : ¬ (nth .row l (k - 1)).who < (nth .row l k).who) : y6 m l = false := by
 have := s0 (f := H7 m l) h (by simp [H7, hw]; omega)
 simp [y6, this]
theorem b9V {m : PMap} {l : List Row} {k : Nat} (h : l8 k (H7 m l) = true) (hk : k = l.length) (hm : n8 m = true) : y6 m l = true := by
 subst hk
 simp [y6, h, hm]
def a5K (who : Int) (r : Row) : Bool := decide (r.who = who)
def k8 (l : List Row) (who : Int) : Int := idx (a5K who) l
def nwho (l : List Row) (who : Int) (j : Nat) : Bool := !a5K who (nth .row l j)
theorem b6R {l : List Row} {who : Int} {k : Nat} (h : l8 k (nwho l who) = true) (hk : k < l.length) (hi : (nth .row l k).who = who) : k8 l who = k := by
 rw [k9 .row l k hk] at hi
 refine a9t hk (by simp [a5K, hi]) fun j hj => ?_
 have := (j9 k _).1 h j hj
 simp only [nwho, Bool.not_eq_true'] at this
 rw [k9 .row l j (by omega)] at this
 exact this
theorem b4B {l : List Row} {who : Int} {k : Nat} (h : l8 k (nwho l who) = true) (hk : k = l.length) : k8 l who = -1 := by
 subst hk
 refine a1s fun j hj => ?_
 have := (j9 _ _).1 h j hj
 simp only [nwho, Bool.not_eq_true'] at this
 rw [k9 .row l j hj] at this
 exact this
theorem a0S (l : List Row) (who : Int) : -1 ≤ k8 l who ∧ k8 l who < l.length := by
 rcases C3 (a5K who) l with ⟨h, _⟩ | ⟨k, hk, h, _⟩
 ·unfold k8; rw [h]; omega
 ·unfold k8; rw [h]; omega
theorem b2y {l : List Row} {who : Int} (h : 0 ≤ k8 l who) : (nth .row l (k8 l who).toNat).who = who := by
 rcases C3 (a5K who) l with ⟨h', _⟩ | ⟨k, hk, h', h2, _⟩
 ·unfold k8 at h; omega
 ·unfold k8; rw [h']
  rw [Int.toNat_natCast, k9 .row l k hk]
  simpa [a5K] using h2
theorem a6X {m : PMap} {l : List Row} (h : y6 m l = true) {k : Nat} (hk : k < l.length) : R7 m (nth .row l k) = true ∧ (0 < k → (nth .row l (k - 1)).who < (nth .row l k).who) := by
 unfold y6 at h
 rw [Bool.and_eq_true] at h
 have := (j9 _ _).1 h.2 k hk
 simp only [H7, Bool.and_eq_true, Bool.or_eq_true, decide_eq_true_eq] at this
 exact ⟨this.1, fun h0 => this.2.resolve_left (by omega)⟩
theorem c7V {m : PMap} {l : List Row} (h : y6 m l = true) {k : Nat} (hk : k < l.length) : 0 ≤ (nth .row l k).seq ∧ (nth .row l k).seq ≤ 900 := by
 have := (a6X h hk).1
 simp only [R7, decide_eq_true_eq] at this
 exact ⟨this.2.2.2.2.1, this.2.2.2.2.2.1⟩
def seqB (l : List Row) : Prop := ∀ k, k < l.length → 0 ≤ (nth .row l k).seq ∧ (nth .row l k).seq ≤ 900
theorem a9z {m : PMap} {l : List Row} (h : y6 m l = true) : seqB l := fun _ hk => c7V h hk
structure BB where
 b : List Row
 ok : Bool
def b3E (l : List Row) (who kind dest n : Int) : Ord := ⟨who, (nth .row l (k8 l who).toNat).seq + 1, kind, dest, n⟩
def L8 (l : List Row) (who kind dest n : Int) : BB :=
 if 0 ≤ k8 l who ∧ (nth .row l (k8 l who).toNat).busy = false ∧ J6 (b3E l who kind dest n) = true then
  ⟨l.set (k8 l who).toNat ⟨(nth .row l (k8 l who).toNat).who, (nth .row l (k8 l who).toNat).cell, true, b3E l who kind dest n, (nth .row l (k8 l who).toNat).seq, (nth .row l (k8 l who).toNat).code⟩, true⟩
 else ⟨l, false⟩
def a5O (m : PMap) (l : List Row) (who kind dest n : Int) : BB := if y6 m l = true then L8 l who kind dest n else ⟨[], false⟩
def a1u (m : PMap) (l : List Hld) (i : Nat) : Bool := N3 m (nth .hld l i) && (decide (i = 0) || decide ((nth .hld l (i - 1)).state.cell < (nth .hld l i).state.cell))
def a3M (s : Srv) : Bool := s.up || decide (s.holds.length = 0 ∧ s.n0.length = 0)
def y3 (m : PMap) (s : Srv) : Bool := Q3 m s.n0 && a3M s && l8 s.holds.length (a1u m s.holds)
theorem b4e {m : PMap} {s : Srv} {k : Nat} (h : k < s.holds.length) (hw : N3 m (nth .hld s.holds k) = false) : y3 m s = false := by
 have := s0 (f := a1u m s.holds) h (by simp [a1u, hw])
 simp [y3, this]
theorem b4d {m : PMap} {s : Srv} {k : Nat} (h : k < s.holds.length) (h0 : 0 < k) (hw : ¬ (nth .hld s.holds (k - 1)).state.cell < (nth .hld s.holds k).state.cell) : y3 m s = false := by
 have := s0 (f := a1u m s.holds) h (by simp [a1u, hw]; omega)
 simp [y3, this]
theorem b8F {m : PMap} {s : Srv} {k : Nat} (h : l8 k (a1u m s.holds) = true) (hk : k = s.holds.length) : y3 m s = (Q3 m s.n0 && a3M s) := by
 subst hk
 simp [y3, h]
theorem a4f {m : PMap} {s : Srv} (h : y3 m s = true) {k : Nat} (hk : k < s.holds.length) : N3 m (nth .hld s.holds k) = true := by
 unfold y3 at h
 rw [Bool.and_eq_true] at h
 have := (j9 _ _).1 h.2 k hk
 simp only [a1u, Bool.and_eq_true] at this
 exact this.1
def S6 (cell : Int) (h : Hld) : Bool := decide (h.state.cell = cell)
def e9 (l : List Hld) (cell : Int) : Int := idx (S6 cell) l
def a7E (l : List Hld) (cell : Int) (j : Nat) : Bool := !S6 cell (nth .hld l j)
theorem b9U {l : List Hld} {cell : Int} {k : Nat} (h : l8 k (a7E l cell) = true) (hk : k < l.length) (hi : (nth .hld l k).state.cell = cell) : e9 l cell = k := by
 rw [k9 .hld l k hk] at hi
 refine a9t hk (by simp [S6, hi]) fun j hj => ?_
 have := (j9 k _).1 h j hj
 simp only [a7E, Bool.not_eq_true'] at this
 rw [k9 .hld l j (by omega)] at this
 exact this
theorem b1x {l : List Hld} {cell : Int} {k : Nat} (h : l8 k (a7E l cell) = true) (hk : k = l.length) : e9 l cell = -1 := by
 subst hk
 refine a1s fun j hj => ?_
 have := (j9 _ _).1 h j hj
 simp only [a7E, Bool.not_eq_true'] at this
 rw [k9 .hld l j hj] at this
 exact this
theorem a1Z (l : List Hld) (cell : Int) : -1 ≤ e9 l cell ∧ e9 l cell < l.length := by
 rcases C3 (S6 cell) l with ⟨h, _⟩ | ⟨k, hk, h, _⟩
 ·unfold e9; rw [h]; omega
 ·unfold e9; rw [h]; omega
theorem a1t {l : List Hld} {cell : Int} (h : 0 ≤ e9 l cell) : (nth .hld l (e9 l cell).toNat).state.cell = cell := by
 rcases C3 (S6 cell) l with ⟨h', _⟩ | ⟨k, hk, h', h2, _⟩
 ·unfold e9 at h; omega
 ·unfold e9; rw [h']
  rw [Int.toNat_natCast, k9 .hld l k hk]
  simpa [S6] using h2
def b9 (s : Srv) (cell : Int) : Hld := if 0 ≤ e9 s.holds cell then nth .hld s.holds (e9 s.holds cell).toNat else a2j
def v5 (s : Srv) (cell : Int) : Bool := decide (0 ≤ e9 s.holds cell)
def a1d (m : PMap) (l : List Sto) (i : Nat) : Bool := x8 m (nth .sto l i) && decide ((nth .sto l i).base.cell = (i : Int))
def x7 (m : PMap) (l : List Sto) : Bool := decide (n8 m = true ∧ (l.length : Int) = m.cells) && l8 l.length (a1d m l)
theorem b0L {m : PMap} {l : List Sto} {k : Nat} (h : k < l.length) (hw : x8 m (nth .sto l k) = false) : x7 m l = false := by
 have := s0 (f := a1d m l) h (by simp [a1d, hw])
 simp [x7, this]
theorem b0K {m : PMap} {l : List Sto} {k : Nat} (h : k < l.length) (hw : ¬ (nth .sto l k).base.cell = (k : Int)) : x7 m l = false := by
 have := s0 (f := a1d m l) h (by simp [a1d, hw])
 simp [x7, this]
theorem b3W {m : PMap} {l : List Sto} {k : Nat} (h : l8 k (a1d m l) = true) (hk : k = l.length) : x7 m l = decide (n8 m = true ∧ (l.length : Int) = m.cells) := by
 subst hk
 simp [x7, h]
def ghTo (m : PMap) (h : Hld) (side : Int) (k : Nat) : List Gst := (flt (fun w => H4 m w.pos side) h.state.wlks k).map fun w => ⟨h.state.cell, h.count, w⟩
def n0 (m : PMap) (h : Hld) (side : Int) : List Gst := ghTo m h side h.state.wlks.length
theorem b1F (m : PMap) (h : Hld) (side : Int) : ghTo m h side 0 = [] := by simp [ghTo, a5S]
theorem b5W (m : PMap) (h : Hld) (side : Int) (k : Nat) : (ghTo m h side k).length ≤ k := by
 simp only [ghTo, List.length_map]
 exact a5T _ _ _
theorem b5V {m : PMap} {h : Hld} {side : Int} {k : Nat} (hk : k < h.state.wlks.length) (hp : H4 m (nth .wlk h.state.wlks k).pos side = true) : ghTo m h side (k + 1) = ghTo m h side k ++ [⟨h.state.cell, h.count, nth .wlk h.state.wlks k⟩] := by
 unfold ghTo
 rw [P4 .wlk _ _ _ hk, if_pos hp]
 simp
theorem b9Y {m : PMap} {h : Hld} {side : Int} {k : Nat} (hk : k < h.state.wlks.length) (hp : H4 m (nth .wlk h.state.wlks k).pos side = false) : ghTo m h side (k + 1) = ghTo m h side k := by
 unfold ghTo
 rw [P4 .wlk _ _ _ hk, if_neg (by simp [hp])]
def N5 (l : List Gst) (g : Gst) : Nat := (l.takeWhile fun x => C8 x g).length
def a0X (l : List Gst) (g : Gst) : List Gst :=
 if N5 l g < l.length ∧ C8 g (nth .gst l (N5 l g)) = false then
  (if (nth .gst l (N5 l g)).count < g.count then l.set (N5 l g) g else l)
 else if l.length < 20 then insL l (N5 l g) [g] else l
def a2V (l : List Hld) (cell : Int) : Nat := (l.takeWhile fun h => decide (h.state.cell < cell)).length
def Q1 (l : List Hld) (h : Hld) : List Hld := if 0 ≤ e9 l h.state.cell then l.set (e9 l h.state.cell).toNat h else insL l (a2V l h.state.cell) [h]
def C5 (l : List Hld) (cell : Int) : List Hld := l.filter fun h => decide (h.state.cell ≠ cell)
structure SH where
 srv : Srv
 stores : List Sto
 out : List Msg
structure SW where
 srv : Srv
 stores : List Sto
 n : Int
 k : Int
def b2d : Msg := ⟨0, 0, 0, 0, 0, ⟨0, 0, 0, 0, 0⟩, ⟨0, 0, ⟨0, 0, 0, 0, 0⟩, 0⟩, ⟨0, 0, ⟨0, 0, 0, 0, 0⟩⟩⟩
def s5 : Ord := ⟨0, 0, 0, 0, 0⟩
def u5 : Pcl := ⟨0, 0, ⟨0, 0, 0, 0, 0⟩, 0⟩
def E8 : Gst := ⟨0, 0, ⟨0, 0, 0, 0, 0⟩⟩
def y8 (m : PMap) (s : Srv) (stores : List Sto) (cell : Int) (r : Rec) : SW :=
 let w := s6 m (b9 s cell) (nth .sto stores cell.toNat) r
 if w.n = 1 then ⟨⟨s.up, Q1 s.holds w.h, s.n0⟩, stores.set cell.toNat w.s, 1, w.k⟩
 else if w.n = 2 then ⟨⟨s.up, C5 s.holds cell, s.n0⟩, stores, 2, 0⟩
 else ⟨s, stores, w.n, 0⟩
def I0 (m : PMap) (s : Srv) (stores : List Sto) (x : Msg) : SH :=
 if v5 s x.cell = true ∧ x.n ≤ (b9 s x.cell).age then ⟨s, stores, []⟩
 else if x.n < (nth .sto stores x.cell.toNat).age then ⟨s, stores, []⟩
 else ⟨⟨s.up, Q1 s.holds ⟨x.n, (nth .sto stores x.cell.toNat).recs.length, p5 m (nth .sto stores x.cell.toNat)⟩, s.n0⟩, stores.set x.cell.toNat ⟨x.n, (nth .sto stores x.cell.toNat).base, (nth .sto stores x.cell.toNat).recs⟩, []⟩
def a0F (x : Msg) (n : Int) : Msg := ⟨3, -1, x.cell, 0, n, x.ord, u5, E8⟩
def a5D (x : Msg) : Msg := ⟨4, -1, x.cell, 0, 0, x.ord, u5, E8⟩
def R4 (m : PMap) (s : Srv) (stores : List Sto) (x : Msg) : SH :=
 let c := (b9 s x.cell).state
 let w := B3 c.wlks x.ord.who
 if o9 c.wlks x.ord.who = false then ⟨s, stores, [a5D x]⟩
 else if x.ord.seq < w.seq then ⟨s, stores, []⟩
 else if x.ord.seq = w.seq then ⟨s, stores, if w.last = 0 then [] else [a0F x w.last]⟩
 else
  let y := y8 m s stores x.cell ⟨1, x.ord, 0, u5, 0⟩
  ⟨y.srv, y.stores, if y.n = 1 then [a0F x y.k] else []⟩
def O4 (m : PMap) (t : Arb) (x : Msg) (n : Int) : List Msg :=
 if n4 t (b6 m x.cell x.side) = -1 then [] else [⟨6, n4 t (b6 m x.cell x.side), b6 m x.cell x.side, 1 - x.side, n, s5, u5, E8⟩]
def R3 (m : PMap) (s : Srv) (stores : List Sto) (t : Arb) (x : Msg) : SH :=
 let n := nth .int (b9 s x.cell).state.ins x.side.toNat
 if x.pcl.n < n then ⟨s, stores, O4 m t x n⟩
 else
  let y := y8 m s stores x.cell ⟨2, s5, x.side, x.pcl, 0⟩
  ⟨y.srv, y.stores, if y.n = 1 then O4 m t x (n + 1) else []⟩
def n5 (m : PMap) (s : Srv) (stores : List Sto) (t : Arb) (x : Msg) : SH :=
 if s.up = false ∨ x.dest = -1 then ⟨s, stores, []⟩
 else if x.kind = 1 then I0 m s stores x
 else if x.kind = 7 then ⟨⟨s.up, s.holds, a0X s.n0 x.gst⟩, stores, []⟩
 else if v5 s x.cell = false then ⟨s, stores, []⟩
 else if x.kind = 2 then R4 m s stores x
 else if x.kind = 5 then R3 m s stores t x
 else
  let y := y8 m s stores x.cell ⟨3, s5, x.side, u5, x.n⟩
  ⟨y.srv, y.stores, []⟩
def C9 (m : PMap) (s : Srv) (stores : List Sto) (t : Arb) (servers : Int) (x : Msg) : SH :=
 if y3 m s = true ∧ x7 m stores = true ∧ z5 m t servers = true ∧ s9 m servers x = true then n5 m s stores t x else ⟨⟨false, [], []⟩, [], []⟩
def z6 (m : PMap) (t : Arb) (h : Hld) (cell : Int) (side : Int) : List Msg :=
 let there := b6 m cell side
 let server := n4 t there
 if there = -1 ∨ server = -1 then [] else
  (((nth .pcls h.state.outs side.toNat).take 4).map fun p => (⟨5, server, there, 1 - side, 0, s5, p, E8⟩ : Msg)) ++ (((n0 m h side).take 4).map fun g => (⟨7, server, there, 1 - side, 0, s5, u5, g⟩ : Msg))
def A8 (m : PMap) (s : Srv) (t : Arb) (cell : Int) : List Msg :=
 if v5 s cell = true then z6 m t (b9 s cell) cell 0 ++ z6 m t (b9 s cell) cell 1 else []
def rowAt (l : List Row) (who : Int) : Row := nth .row l (k8 l who).toNat
def y0 (m : PMap) (l : List Row) (x : Msg) : BB :=
 let r := rowAt l x.ord.who
 if 0 ≤ k8 l x.ord.who ∧ r.busy = true ∧ r.ord = x.ord then
  (if x.kind = 3 then ⟨l.set (k8 l x.ord.who).toNat ⟨r.who, x.cell, false, s5, x.ord.seq, x.n⟩, true⟩
  else if x.kind = 4 ∧ x.cell = r.cell then ⟨l.set (k8 l x.ord.who).toNat ⟨r.who, (r.cell + 1).tmod m.cells, r.busy, r.ord, r.seq, r.code⟩, false⟩
  else ⟨l, false⟩)
 else ⟨l, false⟩
def a0k (m : PMap) (l : List Row) (servers : Int) (x : Msg) : BB := if y6 m l = true ∧ s9 m servers x = true then y0 m l x else ⟨[], false⟩
structure MB where
 x : Msg
 ok : Bool
def Q2 (l : List Row) (t : Arb) (who : Int) : MB :=
 if 0 ≤ k8 l who ∧ (rowAt l who).busy = true ∧ n4 t (rowAt l who).cell ≠ -1 then ⟨⟨2, n4 t (rowAt l who).cell, (rowAt l who).cell, 0, 0, (rowAt l who).ord, u5, E8⟩, true⟩ else ⟨b2d, false⟩
def a3C (m : PMap) (l : List Row) (t : Arb) (servers : Int) (who : Int) : MB := if y6 m l = true ∧ z5 m t servers = true then Q2 l t who else ⟨b2d, false⟩
structure TB where
 t : Arb
 ok : Bool
def p6 (t : Arb) (servers cell server : Int) : TB :=
 if 0 ≤ cell ∧ cell < (t.servers.length : Int) ∧ 0 ≤ server ∧ server < servers ∧ nth .int t.ages cell.toNat ≠ 900 then ⟨⟨t.servers.set cell.toNat server, t.ages.set cell.toNat (nth .int t.ages cell.toNat + 1)⟩, true⟩ else ⟨t, false⟩
def L6 (m : PMap) (t : Arb) (servers cell server : Int) : TB := if z5 m t servers = true then p6 t servers cell server else ⟨⟨[], []⟩, false⟩
def a0q (w : Wld) (i : Nat) : Bool := decide ((nth .sto w.stores i).age ≤ nth .int w.table.ages i)
def a3k (t : Arb) (l : List Hld) (i : Nat) : Bool := decide ((nth .hld l i).age ≤ nth .int t.ages (nth .hld l i).state.cell.toNat)
def a2m (w : Wld) (i : Nat) : Bool := y3 w.map (nth .srv w.servers i) && l8 (nth .srv w.servers i).holds.length (a3k w.table (nth .srv w.servers i).holds)
def a5C (w : Wld) (i : Nat) : Bool := s9 w.map w.servers.length (nth .msg w.net i) && decide ((nth .msg w.net i).kind = 1 → (nth .msg w.net i).n ≤ nth .int w.table.ages (nth .msg w.net i).cell.toNat)
def a4p (n : Note) : Bool := decide (1 ≤ n.who ∧ n.who ≤ 9 ∧ 1 ≤ n.seq ∧ n.seq ≤ 900 ∧ 1 ≤ n.code ∧ n.code ≤ 9)
def b7z (w : Wld) (i : Nat) : Bool := a4p (nth .note w.notes i)
def p9 (w : Wld) : Bool := z5 w.map w.table w.servers.length && x7 w.map w.stores && y6 w.map w.rows && decide (w.net.length ≤ 40 ∧ w.notes.length ≤ 150) &&
 l8 w.stores.length (a0q w) && l8 w.servers.length (a2m w) && l8 w.net.length (a5C w) && l8 w.notes.length (b7z w)
def u4 (w : Wld) (l : List Msg) : Wld := ⟨w.map, w.servers, w.stores, w.table, w.rows, w.net ++ l.take (40 - w.net.length), w.notes⟩
def wCut (w : Wld) (i : Nat) : Wld := ⟨w.map, w.servers, w.stores, w.table, w.rows, w.net.eraseIdx i, w.notes⟩
def a2l (w : Wld) (x : Msg) : Wld :=
 let y := y0 w.map w.rows x
 ⟨w.map, w.servers, w.stores, w.table, y.b, w.net, if y.ok = true ∧ w.notes.length < 150 then w.notes ++ [⟨x.ord.who, x.ord.seq, x.n⟩] else w.notes⟩
def a1c (w : Wld) (x : Msg) : Wld :=
 let y := n5 w.map (nth .srv w.servers x.dest.toNat) w.stores w.table x
 u4 ⟨w.map, w.servers.set x.dest.toNat y.srv, y.stores, w.table, w.rows, w.net, w.notes⟩ y.out
def Q8 (w : Wld) (i : Nat) : Wld :=
 let x := nth .msg w.net i
 if x.dest = -1 then a2l (wCut w i) x else a1c (wCut w i) x
def u3 (w : Wld) (e : Evt) : Wld :=
 if e.kind = 1 then
  (let y := p6 w.table w.servers.length e.pos e.dest
  if y.ok = true then u4 ⟨w.map, w.servers, w.stores, y.t, w.rows, w.net, w.notes⟩ [⟨1, e.dest, e.pos, 0, nth .int y.t.ages e.pos.toNat, s5, u5, E8⟩] else w)
 else if e.kind = 2 then ⟨w.map, w.servers, w.stores, w.table, (L8 w.rows e.pos e.what e.dest e.n).b, w.net, w.notes⟩
 else if e.kind = 3 then (if (Q2 w.rows w.table e.pos).ok = true then u4 w [(Q2 w.rows w.table e.pos).x] else w)
 else if 4 ≤ e.kind ∧ e.kind ≤ 6 then
  (if 0 ≤ e.pos ∧ e.pos < (w.net.length : Int) then (if e.kind = 4 then Q8 w e.pos.toNat else if e.kind = 5 then wCut w e.pos.toNat else u4 w [nth .msg w.net e.pos.toNat]) else w)
 else if 7 ≤ e.kind ∧ e.kind ≤ 9 then
  (if 0 ≤ e.pos ∧ e.pos < (w.servers.length : Int) then (if e.kind = 7 then u4 w (A8 w.map (nth .srv w.servers e.pos.toNat) w.table e.dest)
   else if e.kind = 8 then ⟨w.map, w.servers.set e.pos.toNat ⟨false, [], []⟩, w.stores, w.table, w.rows, w.net, w.notes⟩
   else if (nth .srv w.servers e.pos.toNat).up = false then ⟨w.map, w.servers.set e.pos.toNat ⟨true, [], []⟩, w.stores, w.table, w.rows, w.net, w.notes⟩ else w) else w)
 else w
def a0t : Wld := ⟨⟨0, 0⟩, [], [], ⟨[], []⟩, [], [], []⟩
def m5 (w : Wld) (e : Evt) : Wld := if p9 w = true then u3 w e else a0t
def a6R (l : List Gst) (g : Gst) (i : Nat) : Bool := C8 (nth .gst l i) g
theorem a6q {α : Type} (p : α → Bool) : ∀ (l : List α) (k : Nat), k ≤ l.length → (∀ i (h : i < l.length), i < k → p l[i] = true) → (∀ h : k < l.length, p l[k] = false) → (l.takeWhile p).length = k
 | [], k, hk, _, _ => by simp at hk; simp [hk]
 | x :: l, 0, _, _, h => by
   have := h (by simp)
   simp at this
   simp [List.takeWhile_cons, this]
 | x :: l, k + 1, hk, h1, h2 => by
   have hx := h1 0 (by simp) (by omega)
   simp at hx
   rw [List.takeWhile_cons, if_pos hx, List.length_cons, a6q p l k (by simpa using hk) (fun i hi hik => h1 (i + 1) (Nat.succ_lt_succ hi) (by omega)) (fun h => h2 (Nat.succ_lt_succ h))]
theorem c7X {l : List Gst} {g : Gst} {k : Nat} (hk : k ≤ l.length) (h : l8 k (a6R l g) = true) (h2 : k < l.length → a6R l g k = false) : N5 l g = k := by
 refine a6q _ _ _ hk (fun i hi hik => ?_) (fun hl => ?_)
 ·have := (j9 _ _).1 h i hik
  rwa [a6R, k9 .gst l i hi] at this
 ·have := h2 hl
  rwa [a6R, k9 .gst l k hl] at this
structure GB where
 l : List Gst
 d : Bool
def N6 (l : List Gst) (g x : Gst) (o : GB) : GB :=
 if x.src = g.src ∧ x.wlk.id = g.wlk.id then ⟨o.l ++ [if x.count < g.count then g else x], true⟩
 else if o.d = false ∧ C8 g x = true ∧ l.length < 20 then ⟨o.l ++ [g] ++ [x], true⟩
 else ⟨o.l ++ [x], o.d⟩
def gpTo (l : List Gst) (g : Gst) : Nat → GB
 | 0 => ⟨[], false⟩
 | k + 1 => N6 l g (nth .gst l k) (gpTo l g k)
theorem c2z (l : List Gst) (g : Gst) : gpTo l g 0 = ⟨[], false⟩ := rfl
theorem a7a (l : List Gst) (g : Gst) (k : Nat) : gpTo l g (k + 1) = N6 l g (nth .gst l k) (gpTo l g k) := rfl
theorem c5I (l : List Gst) (g : Gst) (k : Nat) : (gpTo l g k).l.length ≤ k + (if (gpTo l g k).d = true then 1 else 0) := by
 induction k with
 | zero => simp [gpTo]
 | succ k ih =>
  rw [a7a]
  unfold N6
  split
  ·simp; split at ih <;> omega
  ·split
   ·rename_i h
    simp [h.1] at ih ⊢
    omega
   ·simp
    split at ih <;> simp_all <;> omega
def b9W (l : List Gst) (g : Gst) : List Gst := if (gpTo l g l.length).d = false ∧ l.length < 20 then (gpTo l g l.length).l ++ [g] else (gpTo l g l.length).l
def a5P (m : PMap) (l : List Gst) (g : Gst) : List Gst := if A9 m l = true ∧ Y3 m g = true then b9W l g else []
theorem W0 {t : RT} {β : Type} (f : t.ty → β) (l : List t.ty) {k : Nat} (h : k < l.length) : (l.take (k + 1)).map f = (l.take k).map f ++ [f (nth t l k)] := by
 rw [List.take_succ_eq_append_getElem h, List.map_append, k9 t l k h]
 rfl
theorem a4L {t : RT} {β : Type} (f : t.ty → β) (l : List t.ty) {k : Nat} (h : k ≤ l.length) (h4 : k ≤ 4) (he : ¬ (k < l.length ∧ k < 4)) : (l.take k).map f = (l.take 4).map f := by
 by_cases h5 : k = 4
 ·rw [h5]
 ·rw [List.take_of_length_le (by omega), List.take_of_length_le (by omega)]
def b7e (m : PMap) (t : Arb) (cell side : Int) (p : Pcl) : Msg := ⟨5, n4 t (b6 m cell side), b6 m cell side, 1 - side, 0, s5, p, E8⟩
def b7R (m : PMap) (t : Arb) (cell side : Int) (g : Gst) : Msg := ⟨7, n4 t (b6 m cell side), b6 m cell side, 1 - side, 0, s5, u5, g⟩
def a0g (m : PMap) (t : Arb) (h : Hld) (side : Int) (k : Nat) : List Msg := ((nth .pcls h.state.outs side.toNat).take k).map (b7e m t h.state.cell side)
def a0W (m : PMap) (t : Arb) (h : Hld) (side : Int) (k : Nat) : List Msg := ((n0 m h side).take k).map (b7R m t h.state.cell side)
theorem b4P (m : PMap) (t : Arb) (h : Hld) (side : Int) : a0g m t h side 0 = [] := by simp [a0g]
theorem b5N (m : PMap) (t : Arb) (h : Hld) (side : Int) : a0W m t h side 0 = [] := by simp [a0W]
theorem b4Q (m : PMap) (t : Arb) (h : Hld) (side : Int) {k : Nat} (hk : k < (nth .pcls h.state.outs side.toNat).length) : a0g m t h side (k + 1) = a0g m t h side k ++ [b7e m t h.state.cell side (nth .pcl (nth .pcls h.state.outs side.toNat) k)] := W0 (t := .pcl) _ _ hk
theorem b5O (m : PMap) (t : Arb) (h : Hld) (side : Int) {k : Nat} (hk : k < (n0 m h side).length) : a0W m t h side (k + 1) = a0W m t h side k ++ [b7R m t h.state.cell side (nth .gst (n0 m h side) k)] := W0 (t := .gst) _ _ hk
theorem b7d (m : PMap) (t : Arb) (h : Hld) (side : Int) {k : Nat} (hk : k ≤ (nth .pcls h.state.outs side.toNat).length) (h4 : k ≤ 4) (he : ¬ (k < (nth .pcls h.state.outs side.toNat).length ∧ k < 4)) : a0g m t h side k = a0g m t h side 4 := a4L (t := .pcl) _ _ hk h4 he
theorem b7P (m : PMap) (t : Arb) (h : Hld) (side : Int) {k : Nat} (hk : k ≤ (n0 m h side).length) (h4 : k ≤ 4) (he : ¬ (k < (n0 m h side).length ∧ k < 4)) : a0W m t h side k = a0W m t h side 4 := a4L (t := .gst) _ _ hk h4 he
def a1H (m : PMap) (t : Arb) (h : Hld) (side : Int) : List Msg :=
 if b6 m h.state.cell side = -1 ∨ n4 t (b6 m h.state.cell side) = -1 then [] else a0g m t h side 4 ++ a0W m t h side 4
theorem a8N (m : PMap) (t : Arb) (h : Hld) (side : Int) (k : Nat) : (a0g m t h side k).length ≤ k := by simp [a0g]; omega
theorem a9B (m : PMap) (t : Arb) (h : Hld) (side : Int) (k : Nat) : (a0W m t h side k).length ≤ k := by simp [a0W]; omega
def b2Y (cell : Int) (h : Hld) : Bool := decide (h.state.cell ≠ cell)
def N4 (l : List Hld) (cell : Int) (k : Nat) : List Hld := flt (b2Y cell) l k
theorem b0z (l : List Hld) (cell : Int) : N4 l cell 0 = [] := a5S _ _
theorem b3j (l : List Hld) (cell : Int) (k : Nat) : (N4 l cell k).length ≤ k := a5T _ _ _
theorem b3i {l : List Hld} {cell : Int} {k : Nat} (h : k < l.length) (hi : (nth .hld l k).state.cell ≠ cell) : N4 l cell (k + 1) = N4 l cell k ++ [nth .hld l k] := by
 unfold N4
 rw [P4 .hld _ _ _ h, if_pos (by simp [b2Y, hi])]
theorem b5H {l : List Hld} {cell : Int} {k : Nat} (h : k < l.length) (hi : (nth .hld l k).state.cell = cell) : N4 l cell (k + 1) = N4 l cell k := by
 unfold N4
 rw [P4 .hld _ _ _ h, if_neg (by simp [b2Y, hi])]
theorem b3k {l : List Hld} {cell : Int} {k : Nat} (h : k = l.length) : N4 l cell k = C5 l cell := by
 subst h
 unfold N4
 rw [a8j]
 rfl
theorem b7L (l : List Hld) (cell : Int) : (C5 l cell).length ≤ l.length := by
 unfold C5
 exact List.length_filter_le _ _
structure HB where
 l : List Hld
 d : Bool
def a0j (h x : Hld) (o : HB) : HB := if o.d = false ∧ h.state.cell < x.state.cell then ⟨o.l ++ [h] ++ [x], true⟩ else ⟨o.l ++ [x], o.d⟩
def hpTo (l : List Hld) (h : Hld) : Nat → HB
 | 0 => ⟨[], false⟩
 | k + 1 => a0j h (nth .hld l k) (hpTo l h k)
theorem c2q (l : List Hld) (h : Hld) : hpTo l h 0 = ⟨[], false⟩ := rfl
theorem a6V (l : List Hld) (h : Hld) (k : Nat) : hpTo l h (k + 1) = a0j h (nth .hld l k) (hpTo l h k) := rfl
theorem c5y (l : List Hld) (h : Hld) (k : Nat) : (hpTo l h k).l.length ≤ k + (if (hpTo l h k).d = true then 1 else 0) := by
 induction k with
 | zero => simp [hpTo]
 | succ k ih =>
  rw [a6V]
  unfold a0j
  split
  ·rename_i h
   simp [h.1] at ih ⊢
   omega
  ·simp
   split at ih <;> simp_all <;> omega
def b9R (l : List Hld) (h : Hld) : List Hld := if (hpTo l h l.length).d = false then (hpTo l h l.length).l ++ [h] else (hpTo l h l.length).l
def a3z (l : List Hld) (h : Hld) : List Hld := b9R (C5 l h.state.cell) h
theorem a1f {m : PMap} {s : Srv} (h : y3 m s = true) : ∀ {i j : Nat}, i < j → j < s.holds.length → (nth .hld s.holds i).state.cell < (nth .hld s.holds j).state.cell := by
 have hs : ∀ k, k < s.holds.length → 0 < k → (nth .hld s.holds (k - 1)).state.cell < (nth .hld s.holds k).state.cell := fun k hk h0 => by
  unfold y3 at h
  rw [Bool.and_eq_true] at h
  have := (j9 _ _).1 h.2 k hk
  simp only [a1u, Bool.and_eq_true, Bool.or_eq_true, decide_eq_true_eq] at this
  exact this.2.resolve_left (by omega)
 intro i j hij hj
 induction j with
 | zero => omega
 | succ j ih =>
  have h1 := hs (j + 1) hj (by omega)
  simp only [Nat.add_sub_cancel] at h1
  by_cases he : i = j
  ·subst he; exact h1
  ·have := ih (by omega) (by omega)
   omega
theorem a7W {m : PMap} {s : Srv} (h : y3 m s = true) : s.holds.length ≤ 4 := by
 by_cases h4 : s.holds.length ≤ 4
 ·exact h4
 ·exfalso
  have c := fun k (hk : k < s.holds.length) => (n6 (y5.1 (a4f h hk)).2.2)
  have o1 := a1f h (i := 0) (j := 1) (by omega) (by omega)
  have o2 := a1f h (i := 1) (j := 2) (by omega) (by omega)
  have o3 := a1f h (i := 2) (j := 3) (by omega) (by omega)
  have o4 := a1f h (i := 3) (j := 4) (by omega) (by omega)
  obtain ⟨_, hp, c0, _⟩ := c 0 (by omega)
  obtain ⟨_, _, _, c4, _⟩ := c 4 (by omega)
  obtain ⟨_, h4', _, _⟩ := r6.1 hp
  omega
theorem c5x {α : Type} (p : α → Bool) (x : α) (l : List α) : idx p (x :: l) = if p x = true then 0 else if idx p l = -1 then -1 else idx p l + 1 := by
 unfold idx
 rw [List.findIdx?_cons]
 by_cases h : p x = true
 ·simp [h]
 ·simp [h]
  cases l.findIdx? p with
  | none => simp
  | some i =>
   have : ¬ ((i : Int) = -1) := by omega
   simp [this]
theorem idx_ge {α : Type} (p : α → Bool) (l : List α) : -1 ≤ idx p l := by
 unfold idx
 split <;> omega
def putH : List Hld → Hld → List Hld
 | [], h => [h]
 | x :: l, h => if h.state.cell < x.state.cell then h :: x :: l else if h.state.cell = x.state.cell then h :: l else x :: putH l h
def insH : List Hld → Hld → List Hld
 | [], h => [h]
 | x :: l, h => if h.state.cell < x.state.cell then h :: x :: l else x :: insH l h
abbrev HSort (l : List Hld) : Prop := l.Pairwise fun a b => a.state.cell < b.state.cell
theorem a9w {m : PMap} {s : Srv} (h : y3 m s = true) : HSort s.holds := by
 refine List.pairwise_iff_getElem.2 ?_
 intro i j hi hj hij
 have := a1f h hij hj
 rwa [k9 .hld _ _ hi, k9 .hld _ _ hj] at this
def a1Y (h : Hld) (o : HB) (l : List Hld) : HB := l.foldl (fun o x => a0j h x o) o
theorem c2r (l : List Hld) (h : Hld) (k : Nat) (hk : k ≤ l.length) : hpTo l h k = a1Y h ⟨[], false⟩ (l.take k) := by
 induction k with
 | zero => rfl
 | succ k ih =>
  rw [a6V, ih (by omega), k9 .hld l k (by omega)]
  have e : l.take (k + 1) = l.take k ++ [l[k]] := List.take_succ_eq_append_getElem (by omega)
  rw [e]
  simp only [a1Y, List.foldl_append, List.foldl_cons, List.foldl_nil]
theorem a7J (h : Hld) : ∀ (l acc : List Hld), a1Y h ⟨acc, true⟩ l = ⟨acc ++ l, true⟩
 | [], acc => by simp [a1Y]
 | x :: l, acc => by
  have := a7J h l (acc ++ [x])
  simp only [a1Y, List.foldl_cons] at this ⊢
  rw [show a0j h x ⟨acc, true⟩ = ⟨acc ++ [x], true⟩ by simp [a0j], this]
  simp
def b9S (h : Hld) (o : HB) : List Hld := if o.d = false then o.l ++ [h] else o.l
theorem a9x (h : Hld) : ∀ (l acc : List Hld), b9S h (a1Y h ⟨acc, false⟩ l) = acc ++ insH l h
 | [], acc => by simp [a1Y, b9S, insH]
 | x :: l, acc => by
  by_cases hx : h.state.cell < x.state.cell
  ·have := a7J h l (acc ++ [h] ++ [x])
   simp only [a1Y, List.foldl_cons] at this ⊢
   rw [show a0j h x ⟨acc, false⟩ = ⟨acc ++ [h] ++ [x], true⟩ by simp [a0j, hx], this]
   simp [b9S, insH, hx]
  ·have := a9x h l (acc ++ [x])
   simp only [a1Y, List.foldl_cons] at this ⊢
   rw [show a0j h x ⟨acc, false⟩ = ⟨acc ++ [x], false⟩ by simp [a0j, hx], this]
   simp [insH, hx]
theorem c5z (l : List Hld) (h : Hld) : b9R l h = insH l h := by
 have h1 := c2r l h l.length (Nat.le_refl _)
 have h2 := a9x h l []
 rw [List.take_length] at h1
 rw [← h1] at h2
 simpa [b9R, b9S] using h2
theorem b7H {l : List Hld} {h : Hld} (hl : ∀ x ∈ l, h.state.cell < x.state.cell) : insH l h = h :: l := by
 cases l with
 | nil => rfl
 | cons x l => simp [insH, hl x (by simp)]
theorem a5L {l : List Hld} {c : Int} (hl : ∀ x ∈ l, x.state.cell ≠ c) : C5 l c = l := by
 unfold C5
 rw [List.filter_eq_self]
 intro x hx
 simp [hl x hx]
theorem b5G : ∀ {l : List Hld} {h : Hld}, HSort l → a3z l h = putH l h := by
 intro l h hs
 unfold a3z
 rw [c5z]
 induction l with
 | nil => rfl
 | cons x l ih =>
  obtain ⟨hx, hl⟩ := List.pairwise_cons.1 hs
  by_cases h1 : h.state.cell < x.state.cell
  ·rw [a5L (fun y hy => ?_)]
   ·simp [putH, insH, h1]
   ·rcases List.mem_cons.1 hy with rfl | hy
    ·omega
    ·have := hx y hy; omega
  ·by_cases h2 : h.state.cell = x.state.cell
   ·have : C5 (x :: l) h.state.cell = l := by
     rw [show C5 (x :: l) h.state.cell = C5 l h.state.cell by simp [C5, h2]]
     exact a5L fun y hy => by have := hx y hy; omega
    rw [this, b7H (fun y hy => by have := hx y hy; omega)]
    simp [putH, h2]
   ·rw [show C5 (x :: l) h.state.cell = x :: C5 l h.state.cell by
     have : ¬ x.state.cell = h.state.cell := fun hh => h2 hh.symm
     simp [C5, this]]
    simp [putH, insH, h1, h2, ih hl]
theorem a2a : ∀ {l : List Hld} {h : Hld}, HSort l → Q1 l h = putH l h := by
 intro l h hs
 induction l with
 | nil => simp [Q1, e9, idx, insL, a2V, putH]
 | cons x l ih =>
  obtain ⟨hx, hl⟩ := List.pairwise_cons.1 hs
  have hi := c5x (S6 h.state.cell) x l
  have hge := idx_ge (S6 h.state.cell) l
  by_cases h1 : h.state.cell < x.state.cell
  ·have hno : e9 (x :: l) h.state.cell = -1 := by
    rcases C3 (S6 h.state.cell) (x :: l) with ⟨e, _⟩ | ⟨k, hk, e, h2, _⟩
    ·exact e
    ·exfalso
     simp only [S6, decide_eq_true_eq] at h2
     have hm := List.getElem_mem hk
     rcases List.mem_cons.1 hm with he | he
     ·rw [he] at h2; omega
     ·have := hx _ he; omega
   rw [Q1, hno, if_neg (by omega)]
   have : a2V (x :: l) h.state.cell = 0 := by
    simp [a2V, List.takeWhile_cons, show ¬ x.state.cell < h.state.cell by omega]
   simp [this, insL, putH, h1]
  ·by_cases h2 : h.state.cell = x.state.cell
   ·have he : e9 (x :: l) h.state.cell = 0 := by
     unfold e9
     rw [hi, if_pos (by simp [S6, h2])]
    rw [Q1, he]
    simp [putH, h2]
   ·have ih := ih hl
    have he : e9 (x :: l) h.state.cell = if e9 l h.state.cell = -1 then -1 else e9 l h.state.cell + 1 := by
     unfold e9
     rw [hi, if_neg (by simp [S6]; omega)]
    have hp : a2V (x :: l) h.state.cell = a2V l h.state.cell + 1 := by
     simp [a2V, List.takeWhile_cons, show x.state.cell < h.state.cell by omega]
    unfold Q1 at ih ⊢
    have hge' : -1 ≤ e9 l h.state.cell := hge
    generalize e9 (x :: l) h.state.cell = P at *
    generalize e9 l h.state.cell = R at *
    by_cases h0 : 0 ≤ R
    ·rw [if_pos h0] at ih
     rw [if_neg (by omega)] at he
     subst he
     rw [if_pos (by omega), show (R + 1).toNat = R.toNat + 1 by omega, List.set_cons_succ, ih]
     simp [putH, h1, h2]
    ·rw [if_neg h0] at ih
     rw [if_pos (by omega)] at he
     subst he
     rw [if_neg (by omega), hp]
     simp only [insL, List.take_succ_cons, List.drop_succ_cons, List.cons_append] at ih ⊢
     rw [ih]
     simp [putH, h1, h2]
theorem b7K {l : List Hld} {h : Hld} (hs : HSort l) : a3z l h = Q1 l h := by rw [b5G hs, a2a hs]
abbrev GSort (l : List Gst) : Prop := l.Pairwise fun a b => C8 a b = true
theorem F4 {a b : Gst} : C8 a b = true ↔ a.src < b.src ∨ a.src = b.src ∧ a.wlk.id < b.wlk.id := by simp [C8]
theorem a9C {m : PMap} {l : List Gst} (h : A9 m l = true) : GSort l := by
 have hs : ∀ k, k < l.length → 0 < k → C8 (nth .gst l (k - 1)) (nth .gst l k) = true := fun k hk h0 => by
  unfold A9 at h
  rw [Bool.and_eq_true] at h
  have := (j9 _ _).1 h.2 k hk
  simp only [a1v, Bool.and_eq_true, Bool.or_eq_true, decide_eq_true_eq] at this
  exact this.2.resolve_left (by omega)
 have hall : ∀ j, j < l.length → ∀ i, i < j → C8 (nth .gst l i) (nth .gst l j) = true := by
  intro j
  induction j with
  | zero => intro _ i hi; omega
  | succ j ih =>
   intro hj i hi
   have h1 := hs (j + 1) hj (by omega)
   simp only [Nat.add_sub_cancel] at h1
   by_cases he : i = j
   ·subst he; exact h1
   ·have h2 := ih (by omega) i (by omega)
    rw [F4] at h1 h2 ⊢
    omega
 refine List.pairwise_iff_getElem.2 ?_
 intro i j hi hj hij
 have := hall j hj i hij
 rwa [k9 .gst _ _ hi, k9 .gst _ _ hj] at this
def a5J (x g : Gst) : Gst := if x.count < g.count then g else x
def putG (room : Bool) : List Gst → Gst → List Gst
 | [], g => if room = true then [g] else []
 | x :: l, g => if C8 g x = true then (if room = true then g :: x :: l else x :: l) else if x.src = g.src ∧ x.wlk.id = g.wlk.id then a5J x g :: l else x :: putG room l g
def S8 (L : List Gst) (g : Gst) (o : GB) (l : List Gst) : GB := l.foldl (fun o x => N6 L g x o) o
theorem c2A (l : List Gst) (g : Gst) (k : Nat) (hk : k ≤ l.length) : gpTo l g k = S8 l g ⟨[], false⟩ (l.take k) := by
 induction k with
 | zero => rfl
 | succ k ih =>
  rw [a7a, ih (by omega), k9 .gst l k (by omega)]
  have e : l.take (k + 1) = l.take k ++ [l[k]] := List.take_succ_eq_append_getElem (by omega)
  rw [e]
  simp only [S8, List.foldl_append, List.foldl_cons, List.foldl_nil]
theorem a2X (L : List Gst) (g : Gst) : ∀ (l acc : List Gst), (∀ x ∈ l, ¬ (x.src = g.src ∧ x.wlk.id = g.wlk.id)) → S8 L g ⟨acc, true⟩ l = ⟨acc ++ l, true⟩
 | [], acc, _ => by simp [S8]
 | x :: l, acc, hl => by
  have := a2X L g l (acc ++ [x]) fun y hy => hl y (List.mem_cons_of_mem _ hy)
  simp only [S8, List.foldl_cons] at this ⊢
  rw [show N6 L g x ⟨acc, true⟩ = ⟨acc ++ [x], true⟩ by simp [N6, hl x (by simp)], this]
  simp
theorem a7L (L : List Gst) (g : Gst) (hL : ¬ L.length < 20) : ∀ (l acc : List Gst), (∀ x ∈ l, ¬ (x.src = g.src ∧ x.wlk.id = g.wlk.id)) → (S8 L g ⟨acc, false⟩ l).l = acc ++ l
 | [], acc, _ => by simp [S8]
 | x :: l, acc, hl => by
  have := a7L L g hL l (acc ++ [x]) fun y hy => hl y (List.mem_cons_of_mem _ hy)
  simp only [S8, List.foldl_cons] at this ⊢
  rw [show N6 L g x ⟨acc, false⟩ = ⟨acc ++ [x], false⟩ by simp [N6, hl x (by simp), hL], this]
  simp
def b1D (L : List Gst) (g : Gst) (o : GB) : List Gst := if o.d = false ∧ L.length < 20 then o.l ++ [g] else o.l
theorem a9D (L : List Gst) (g : Gst) : ∀ (l acc : List Gst), GSort l → b1D L g (S8 L g ⟨acc, false⟩ l) = acc ++ putG (decide (L.length < 20)) l g
 | [], acc, _ => by by_cases h : L.length < 20 <;> simp [S8, b1D, putG, h]
 | x :: l, acc, hs => by
  obtain ⟨hx, hl⟩ := List.pairwise_cons.1 hs
  by_cases h1 : C8 g x = true
  ·have hne : ∀ y ∈ l, ¬ (y.src = g.src ∧ y.wlk.id = g.wlk.id) := fun y hy => by
    have := hx y hy
    rw [F4] at this h1
    omega
   have hnx : ¬ (x.src = g.src ∧ x.wlk.id = g.wlk.id) := by rw [F4] at h1; omega
   by_cases hL : L.length < 20
   ·have := a2X L g l (acc ++ [g] ++ [x]) hne
    simp only [S8, List.foldl_cons] at this ⊢
    rw [show N6 L g x ⟨acc, false⟩ = ⟨acc ++ [g] ++ [x], true⟩ by simp [N6, hnx, h1, hL], this]
    simp [b1D, putG, h1, hL]
   ·have := a7L L g hL l (acc ++ [x]) hne
    simp only [S8, List.foldl_cons] at this ⊢
    rw [show N6 L g x ⟨acc, false⟩ = ⟨acc ++ [x], false⟩ by simp [N6, hnx, hL]]
    simp [b1D, putG, h1, hL, this]
  ·by_cases h2 : x.src = g.src ∧ x.wlk.id = g.wlk.id
   ·have hne : ∀ y ∈ l, ¬ (y.src = g.src ∧ y.wlk.id = g.wlk.id) := fun y hy => by
     have := hx y hy
     rw [F4] at this
     omega
    have := a2X L g l (acc ++ [a5J x g]) hne
    simp only [S8, List.foldl_cons] at this ⊢
    rw [show N6 L g x ⟨acc, false⟩ = ⟨acc ++ [a5J x g], true⟩ by simp [N6, h2, a5J], this]
    simp [b1D, putG, h1, h2]
   ·have := a9D L g l (acc ++ [x]) hl
    simp only [S8, List.foldl_cons] at this ⊢
    rw [show N6 L g x ⟨acc, false⟩ = ⟨acc ++ [x], false⟩ by simp [N6, h1, h2], this]
    simp [putG, h1, h2]
theorem c2B {l : List Gst} {g : Gst} (hs : GSort l) : b9W l g = putG (decide (l.length < 20)) l g := by
 have h1 := c2A l g l.length (Nat.le_refl _)
 have h2 := a9D l g l [] hs
 rw [List.take_length] at h1
 rw [← h1] at h2
 simpa [b9W, b1D] using h2
theorem b5Q (x : Gst) (l : List Gst) (g : Gst) : N5 (x :: l) g = if C8 x g = true then N5 l g + 1 else 0 := by
 unfold N5
 rw [List.takeWhile_cons]
 split <;> simp
theorem b1C (room : Bool) : ∀ (l : List Gst) (g : Gst), GSort l → (if N5 l g < l.length ∧ C8 g (nth .gst l (N5 l g)) = false then
  (if (nth .gst l (N5 l g)).count < g.count then l.set (N5 l g) g else l)
 else if room = true then insL l (N5 l g) [g] else l) = putG room l g
 | [], g, _ => by simp [N5, insL, putG]
 | x :: l, g, hs => by
  obtain ⟨hx, hl⟩ := List.pairwise_cons.1 hs
  have ih := b1C room l g hl
  rw [b5Q]
  by_cases h1 : C8 x g = true
  ·have hn : C8 g x = false := by
    cases hh : C8 g x with
    | false => rfl
    | true => rw [F4] at h1 hh; omega
   have hne : ¬ (x.src = g.src ∧ x.wlk.id = g.wlk.id) := by rw [F4] at h1; omega
   rw [if_pos h1]
   have hnth : nth .gst (x :: l) (N5 l g + 1) = nth .gst l (N5 l g) := by simp [nth]
   rw [hnth]
   simp only [List.length_cons, Nat.add_lt_add_iff_right, List.set_cons_succ, insL, List.take_succ_cons, List.drop_succ_cons, List.cons_append]
   simp only [putG, hn, hne, if_false, Bool.false_eq_true]
   rw [← ih]
   simp only [insL]
   split
   ·split <;> rfl
   ·split <;> rfl
  ·rw [if_neg h1]
   have hnth : nth .gst (x :: l) 0 = x := by simp [nth]
   rw [hnth]
   by_cases h2 : C8 g x = true
   ·rw [if_neg (by simp [h2])]
    simp [putG, h2, insL]
   ·have he : x.src = g.src ∧ x.wlk.id = g.wlk.id := by rw [F4] at h1 h2; omega
    rw [if_pos ⟨by simp, by simpa using h2⟩]
    simp only [putG, h2, he, a5J, List.set_cons_zero]
    by_cases h3 : x.count < g.count <;> simp [h3]
theorem a4v {l : List Gst} {g : Gst} (hs : GSort l) : a0X l g = putG (decide (l.length < 20)) l g := by
 have := b1C (decide (l.length < 20)) l g hs
 rw [← this]
 simp [a0X]
theorem b7Q {m : PMap} {l : List Gst} {g : Gst} (hl : A9 m l = true) (hg : Y3 m g = true) : a5P m l g = a0X l g := by
 rw [a5P, if_pos ⟨hl, hg⟩, c2B (a9C hl), a4v (a9C hl)]
def a3h (l : List Hld) (cell : Int) (i : Nat) : Bool := decide ((nth .hld l i).state.cell < cell)
theorem c7S {l : List Hld} {cell : Int} {k : Nat} (hk : k ≤ l.length) (h : l8 k (a3h l cell) = true) (h2 : k < l.length → ¬ (nth .hld l k).state.cell < cell) : a2V l cell = k := by
 refine a6q _ _ _ hk (fun i hi hik => ?_) (fun hl => ?_)
 ·have := (j9 _ _).1 h i hik
  rwa [a3h, k9 .hld l i hi] at this
 ·have := h2 hl
  rw [k9 .hld l k hl] at this
  simpa using this
end Go.Mo
