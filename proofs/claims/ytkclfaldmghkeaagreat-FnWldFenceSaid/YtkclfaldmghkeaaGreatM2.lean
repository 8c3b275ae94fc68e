/-
  Plain law: in a log that fits no order stands twice.
-/
import Derived.Test.YtkclfaldmghkeaaGreatM1
import Derived.Test.YtkclfaldmghkeaaGreatS5
set_option linter.unusedVariables false
set_option linter.unusedSimpArgs false
namespace Go.Mo
open Go.Sx
def past (c : Cll) (who seq : Int) : Prop := ∀ v ∈ c.wlks, v.id = who → seq ≤ v.seq
def Y4 : Sto := ⟨0, P7, []⟩
def a2G : Hld := ⟨0, 0, P7⟩
def y4 (m : PMap) (s : Sto) : Bool := decide (0 ≤ s.age ∧ s.age ≤ 900 ∧ r7 m s.base = true ∧ s.recs.length ≤ 250 ∧ S6 m s.base s.recs = s.recs.length)
theorem s8 {m : PMap} {s : Sto} : y4 m s = true ↔ (0 ≤ s.age ∧ s.age ≤ 900) ∧ r7 m s.base = true ∧ s.recs.length ≤ 250 ∧ S6 m s.base s.recs = s.recs.length := by simp [y4, and_assoc]
def q9 (m : PMap) (s : Sto) : Cll := a0a m s.base s.recs
def W3 (m : PMap) (s : Sto) : Cll := if y4 m s = true then q9 m s else P7
theorem a2V {m : PMap} {s : Sto} (h : y4 m s = true) : r7 m (q9 m s) = true := foldC_ok (s8.1 h).2.1
structure SOk where
 s : Sto
 ok : Bool
def Q0 (m : PMap) (s : Sto) (age : Int) : SOk :=
 if y4 m s = true ∧ 0 ≤ age ∧ age ≤ 900 then (if age < s.age then ⟨s, false⟩ else ⟨⟨age, s.base, s.recs⟩, true⟩) else ⟨Y4, false⟩
structure SN where
 s : Sto
 n : Int
def H4 (m : PMap) (s : Sto) (age pos : Int) (r : Rec) : SN :=
 if ¬ age = s.age then ⟨s, 2⟩
 else if ¬ pos = (s.recs.length : Int) ∨ pos = 250 then ⟨s, 3⟩
 else if D4 m r = true ∧ (j9 m (q9 m s) r).ok = true then ⟨⟨s.age, s.base, s.recs ++ [r]⟩, 1⟩
 else ⟨s, 4⟩
def u9 (m : PMap) (s : Sto) (age pos : Int) (r : Rec) : SN := if y4 m s = true then H4 m s age pos r else ⟨Y4, 0⟩
def O1 (m : PMap) (h : Hld) : Bool := decide (1 ≤ h.age ∧ h.age ≤ 900 ∧ 0 ≤ h.count ∧ h.count ≤ 250 ∧ r7 m h.state = true)
theorem y0 {m : PMap} {h : Hld} : O1 m h = true ↔ (1 ≤ h.age ∧ h.age ≤ 900) ∧ (0 ≤ h.count ∧ h.count ≤ 250) ∧ r7 m h.state = true := by simp [O1, and_assoc]
structure HSO where
 h : Hld
 s : Sto
 ok : Bool
def U6 (m : PMap) (s : Sto) (age : Int) : HSO :=
 if y4 m s = true ∧ 1 ≤ age ∧ age ≤ 900 then (if age < s.age then ⟨a2G, s, false⟩ else ⟨⟨age, s.recs.length, q9 m s⟩, ⟨age, s.base, s.recs⟩, true⟩) else ⟨a2G, Y4, false⟩
structure HSN where
 h : Hld
 s : Sto
 n : Int
 k : Int
def s7 (m : PMap) (h : Hld) (s : Sto) (r : Rec) : HSN :=
 if O1 m h = true ∧ y4 m s = true then
  (if ¬ (H4 m s h.age h.count r).n = 1 then ⟨h, s, (H4 m s h.age h.count r).n, 0⟩
  else if (j9 m h.state r).ok = false then ⟨h, s, 4, 0⟩
  else ⟨⟨h.age, h.count + 1, (j9 m h.state r).c⟩, (H4 m s h.age h.count r).s, 1, (j9 m h.state r).code⟩)
 else ⟨a2G, Y4, 0, 0⟩
theorem b3N (t : RT) {l : List t.ty} {x : t.ty} {k : Nat} (h : k < l.length) : nth t (l ++ [x]) k = nth t l k := by
 rw [k8 t l k h, k8 t _ k (by simp; omega), List.getElem_append_left h]
theorem a6a (t : RT) {l : List t.ty} {x : t.ty} : nth t (l ++ [x]) l.length = x := by simp [nth, List.getD]
theorem a2z {m : PMap} {c : Cll} {l : List Rec} {r : Rec} : ∀ {k : Nat}, k ≤ l.length → r9 m c (l ++ [r]) k = r9 m c l k
 | 0, _ => rfl
 | k + 1, h => by rw [K8, K8, a2z (by omega), b3N .rcd (by omega)]
theorem fitAt_app {m : PMap} {c : Cll} {l : List Rec} {r : Rec} {k : Nat} (h : k < l.length) : H3 m c (l ++ [r]) k = H3 m c l k := by
 unfold H3
 rw [a2z (by omega), b3N .rcd h]
theorem b6S {m : PMap} {c : Cll} {l : List Rec} (h : S6 m c l = l.length) : m4 l.length (H3 m c l) = true := by
 have := a0E m c l
 rw [h] at this
 exact this
theorem a4f {m : PMap} {c : Cll} {l : List Rec} (h : S6 m c l = l.length) : a0a m c l = r9 m c l l.length := by rw [a0a, h]
theorem b2q {m : PMap} {c : Cll} {l : List Rec} {r : Rec} (h : S6 m c l = l.length) (hr : D4 m r = true) (ha : (j9 m (a0a m c l) r).ok = true) : S6 m c (l ++ [r]) = (l ++ [r]).length := by
 have h1 := b6S h
 refine a4e rfl ?_
 rw [List.length_append, List.length_singleton, n3, Bool.and_eq_true]
 refine ⟨?_, ?_⟩
 ·rw [k9] at h1 ⊢
  intro i hi
  rw [fitAt_app hi]
  exact h1 i hi
 ·unfold H3
  rw [a2z (Nat.le_refl _), a6a .rcd, ← a4f h, hr, ha]
  rfl
theorem foldC_app {m : PMap} {c : Cll} {l : List Rec} {r : Rec} (h : S6 m c l = l.length) (hr : D4 m r = true) (ha : (j9 m (a0a m c l) r).ok = true) : a0a m c (l ++ [r]) = (j9 m (a0a m c l) r).c := by
 rw [a4f (b2q h hr ha), List.length_append, List.length_singleton, K8, a2z (Nat.le_refl _), a6a .rcd, ← a4f h]
theorem a1Z (m : PMap) (s : Sto) (age pos : Int) (r : Rec) : ((H4 m s age pos r).s = s ∧ ((H4 m s age pos r).n = 2 ∧ age ≠ s.age ∨ (H4 m s age pos r).n = 3 ∧ age = s.age ∧ (pos ≠ s.recs.length ∨ pos = 250) ∨ (H4 m s age pos r).n = 4 ∧ age = s.age ∧ ¬ (D4 m r = true ∧ (j9 m (q9 m s) r).ok = true))) ∨
  ((H4 m s age pos r).s = ⟨s.age, s.base, s.recs ++ [r]⟩ ∧ (H4 m s age pos r).n = 1 ∧ age = s.age ∧ pos = s.recs.length ∧ pos ≠ 250 ∧ D4 m r = true ∧ (j9 m (q9 m s) r).ok = true) := by
 unfold H4
 split
 ·exact .inl ⟨rfl, .inl ⟨rfl, by assumption⟩⟩
 split
 ·rename_i h1 h2
  exact .inl ⟨rfl, .inr (.inl ⟨rfl, Classical.not_not.1 h1, h2⟩)⟩
 split
 ·rename_i h1 h2 h3
  exact .inr ⟨rfl, rfl, Classical.not_not.1 h1, by omega, by omega, h3.1, h3.2⟩
 ·rename_i h1 h2 h3
  exact .inl ⟨rfl, .inr (.inr ⟨rfl, Classical.not_not.1 h1, h3⟩)⟩
theorem apX {m : PMap} {c : Cll} {r : Rec} (hc : r7 m c = true) (hr : D4 m r = true) : G0 m c r = j9 m c r := by rw [G0, if_pos ⟨hc, hr⟩]
theorem b2Z {m : PMap} {s : Sto} (h : y4 m s = true) : W3 m s = q9 m s := by rw [W3, if_pos h]
theorem a0J {m : PMap} {s : Sto} {a b : Int} {r : Rec} (h : y4 m s = true) : u9 m s a b r = H4 m s a b r := by rw [u9, if_pos h]
theorem b9k {m : PMap} {s : Sto} {a b : Int} {r : Rec} (h : y4 m s = true) (hn : ¬ (u9 m s a b r).n = 1) : (u9 m s a b r).s = s := by
 rw [a0J h] at *
 rcases a1Z m s a b r with ⟨h1, h2⟩ | ⟨h1, h2, _⟩
 ·exact h1
 ·exact absurd h2 hn
theorem age_ok {m : PMap} {s : Sto} {a : Int} (h : y4 m s = true) (h1 : 0 ≤ a) (h2 : a ≤ 900) : y4 m ⟨a, s.base, s.recs⟩ = true ∧ W3 m ⟨a, s.base, s.recs⟩ = W3 m s := by
 have h3 := s8.1 h
 have h4 : y4 m ⟨a, s.base, s.recs⟩ = true := s8.2 ⟨⟨h1, h2⟩, h3.2⟩
 exact ⟨h4, by rw [b2Z h, b2Z h4]; rfl⟩
theorem b2N {m : PMap} {h : Hld} {s : Sto} {r : Rec} (hh : O1 m h = true) (hs : y4 m s = true) (ha : ¬ h.age = s.age) : (s7 m h s r).h = h ∧ (s7 m h s r).s = s ∧ (s7 m h s r).n = 2 := by
 have e : H4 m s h.age h.count r = ⟨s, 2⟩ := by rw [H4, if_pos ha]
 rw [s7, if_pos ⟨hh, hs⟩, e, if_pos (fun hh : (2 : Int) = 1 => by cases hh)]
 exact ⟨rfl, rfl, rfl⟩
def S4 (m : PMap) (g : Gst) : Bool := decide (0 ≤ g.count ∧ g.count ≤ 250 ∧ P8 m g.wlk = true ∧ l9 m g.wlk.pos = g.src ∧ (I2 m g.wlk.pos 0 = true ∨ I2 m g.wlk.pos 1 = true))
def D1 (a b : Gst) : Bool := decide (a.src < b.src ∨ a.src = b.src ∧ a.wlk.id < b.wlk.id)
def a1T (m : PMap) (l : List Gst) (i : Nat) : Bool := S4 m (nth .gst l i) && (decide (i = 0) || D1 (nth .gst l (i - 1)) (nth .gst l i))
def B6 (m : PMap) (l : List Gst) : Bool := decide (l.length ≤ 20) && m4 l.length (a1T m l)
def R7 (m : PMap) (l : List Gst) : Bool := o8 m && B6 m l
theorem b2j {m : PMap} {l : List Gst} {k : Nat} (h : k < l.length) (hw : S4 m (nth .gst l k) = false) : B6 m l = false := by
 have := s4 (f := a1T m l) h (by simp [a1T, hw])
 simp [B6, this]
theorem b2i {m : PMap} {l : List Gst} {k : Nat} (h : k < l.length) (h0 : 0 < k) (hw : D1 (nth .gst l (k - 1)) (nth .gst l k) = false) : B6 m l = false := by
 have := s4 (f := a1T m l) h (by simp [a1T, hw]; omega)
 simp [B6, this]
theorem a7A {m : PMap} {l : List Gst} (h : 20 < l.length) : B6 m l = false := by
 simp [B6]
 omega
theorem b6F {m : PMap} {l : List Gst} {k : Nat} (h : m4 k (a1T m l) = true) (hk : k = l.length) (hl : l.length ≤ 20) : B6 m l = true := by
 subst hk
 simp [B6, h, hl]
def a2M (t : Arb) (servers : Int) (i : Nat) : Bool := decide (-1 ≤ nth .int t.servers i ∧ nth .int t.servers i ≤ servers - 1 ∧ 0 ≤ nth .int t.ages i ∧ nth .int t.ages i ≤ 900 ∧ (nth .int t.servers i = -1 ↔ nth .int t.ages i = 0))
def V7 (m : PMap) (t : Arb) (servers : Int) : Bool := decide (o8 m = true ∧ 1 ≤ servers ∧ servers ≤ 3 ∧ (t.servers.length : Int) = m.cells ∧ (t.ages.length : Int) = m.cells)
def A4 (m : PMap) (t : Arb) (servers : Int) : Bool := V7 m t servers && m4 t.servers.length (a2M t servers)
theorem c1C {m : PMap} {t : Arb} {servers : Int} {k : Nat} (h : k < t.servers.length) (hw : a2M t servers k = false) : A4 m t servers = false := by
 have := s4 (f := a2M t servers) h hw
 simp [A4, this]
theorem a7I {m : PMap} {t : Arb} {servers : Int} {k : Nat} (h : A4 m t servers = true) (hk : k < t.servers.length) : -1 ≤ nth .int t.servers k ∧ nth .int t.servers k ≤ servers - 1 ∧ 0 ≤ nth .int t.ages k ∧ nth .int t.ages k ≤ 900 ∧ (nth .int t.servers k = -1 ↔ nth .int t.ages k = 0) := by
 unfold A4 at h
 rw [Bool.and_eq_true] at h
 have := (k9 _ _).1 h.2 k hk
 simpa [a2M] using this
theorem b0O {m : PMap} {t : Arb} {servers : Int} {k : Nat} (h : A4 m t servers = true) (hk : (k : Int) < m.cells) : -1 ≤ nth .int t.servers k ∧ nth .int t.servers k ≤ servers - 1 ∧ 0 ≤ nth .int t.ages k ∧ nth .int t.ages k ≤ 900 ∧ (nth .int t.servers k = -1 ↔ nth .int t.ages k = 0) := by
 refine a7I h ?_
 unfold A4 at h
 rw [Bool.and_eq_true] at h
 have h1 := h.1
 simp only [V7, decide_eq_true_eq] at h1
 omega
theorem c1D {m : PMap} {t : Arb} {servers : Int} {k : Nat} (h : m4 k (a2M t servers) = true) (hh : V7 m t servers = true) (hk : k = t.servers.length) : A4 m t servers = true := by
 subst hk
 simp [A4, h, hh]
def n8 (t : Arb) (cell : Int) : Int := if 0 ≤ cell ∧ cell < (t.servers.length : Int) then nth .int t.servers cell.toNat else -1
def a2b (g : Gst) : Bool := decide (g.src = 0 ∧ g.count = 0 ∧ a2O g.wlk = true)
def E0 (m : PMap) (servers : Int) (x : Msg) : Bool := decide (
 (x.kind = 1 ∧ 0 ≤ x.dest ∧ x.dest ≤ servers - 1 ∧ x.side = 0 ∧ 1 ≤ x.n ∧ x.n ≤ 900 ∧ a0P x.ord = true ∧ a2F x.pcl = true ∧ a2b x.gst = true) ∨
 (x.kind = 2 ∧ 0 ≤ x.dest ∧ x.dest ≤ servers - 1 ∧ x.side = 0 ∧ x.n = 0 ∧ K6 x.ord = true ∧ a2F x.pcl = true ∧ a2b x.gst = true) ∨
 (x.kind = 3 ∧ x.dest = -1 ∧ x.side = 0 ∧ 1 ≤ x.n ∧ x.n ≤ 9 ∧ K6 x.ord = true ∧ a2F x.pcl = true ∧ a2b x.gst = true) ∨
 (x.kind = 4 ∧ x.dest = -1 ∧ x.side = 0 ∧ x.n = 0 ∧ K6 x.ord = true ∧ a2F x.pcl = true ∧ a2b x.gst = true) ∨
 (x.kind = 5 ∧ 0 ≤ x.dest ∧ x.dest ≤ servers - 1 ∧ b7 m x.cell x.side ≠ -1 ∧ x.n = 0 ∧ a0P x.ord = true ∧ I3 m x.pcl = true ∧ a2b x.gst = true) ∨
 (x.kind = 6 ∧ 0 ≤ x.dest ∧ x.dest ≤ servers - 1 ∧ b7 m x.cell x.side ≠ -1 ∧ 1 ≤ x.n ∧ x.n ≤ 5000 ∧ a0P x.ord = true ∧ a2F x.pcl = true ∧ a2b x.gst = true) ∨
 (x.kind = 7 ∧ 0 ≤ x.dest ∧ x.dest ≤ servers - 1 ∧ b7 m x.cell x.side ≠ -1 ∧ x.n = 0 ∧ a0P x.ord = true ∧ a2F x.pcl = true ∧ S4 m x.gst = true ∧ x.gst.src = b7 m x.cell x.side))
def u0 (m : PMap) (servers : Int) (x : Msg) : Bool := decide (o8 m = true ∧ 1 ≤ servers ∧ servers ≤ 3 ∧ 0 ≤ x.cell ∧ x.cell < m.cells ∧ E0 m servers x = true)
def R9 (m : PMap) (r : Row) : Bool := decide (1 ≤ r.who ∧ r.who ≤ 9 ∧ 0 ≤ r.cell ∧ r.cell < m.cells ∧ 0 ≤ r.seq ∧ r.seq ≤ 900 ∧ 0 ≤ r.code ∧ r.code ≤ 9 ∧ (r.busy = false → a0P r.ord = true) ∧ (r.busy = true → K6 r.ord = true ∧ r.ord.who = r.who ∧ r.ord.seq = r.seq + 1))
def I5 (m : PMap) (l : List Row) (i : Nat) : Bool := R9 m (nth .row l i) && (decide (i = 0) || decide ((nth .row l (i - 1)).who < (nth .row l i).who))
def z8 (m : PMap) (l : List Row) : Bool := o8 m && m4 l.length (I5 m l)
theorem b6D {m : PMap} {l : List Row} {k : Nat} (h : k < l.length) (hw : R9 m (nth .row l k) = false) : z8 m l = false := by
 have := s4 (f := I5 m l) h (by simp [I5, hw])
 simp [z8, this]
theorem b6C {m : PMap} {l : List Row} {k : Nat} (h : k < l.length) (h0 : 0 < k) (hw : ¬ (nth .row l (k - 1)).who < (nth .row l k).who) : z8 m l = false := by
 have := s4 (f := I5 m l) h (by simp [I5, hw]; omega)
 simp [z8, this]
theorem c0Q {m : PMap} {l : List Row} {k : Nat} (h : m4 k (I5 m l) = true) (hk : k = l.length) (hm : o8 m = true) : z8 m l = true := by
 subst hk
 simp [z8, h, hm]
def a6k (who : Int) (r : Row) : Bool := decide (r.who = who)
def l6 (l : List Row) (who : Int) : Int := idx (a6k who) l
def nwho (l : List Row) (who : Int) (j : Nat) : Bool := !a6k who (nth .row l j)
theorem b7K {l : List Row} {who : Int} {k : Nat} (h : m4 k (nwho l who) = true) (hk : k < l.length) (hi : (nth .row l k).who = who) : l6 l who = k := by
 rw [k8 .row l k hk] at hi
 refine a9Y hk (by simp [a6k, hi]) fun j hj => ?_
 have := (k9 k _).1 h j hj
 simp only [nwho, Bool.not_eq_true'] at this
 rw [k8 .row l j (by omega)] at this
 exact this
theorem b5s {l : List Row} {who : Int} {k : Nat} (h : m4 k (nwho l who) = true) (hk : k = l.length) : l6 l who = -1 := by
 subst hk
 refine a1Q fun j hj => ?_
 have := (k9 _ _).1 h j hj
 simp only [nwho, Bool.not_eq_true'] at this
 rw [k8 .row l j hj] at this
 exact this
theorem a1o (l : List Row) (who : Int) : -1 ≤ l6 l who ∧ l6 l who < l.length := by
 rcases C6 (a6k who) l with ⟨h, _⟩ | ⟨k, hk, h, _⟩
 ·unfold l6; rw [h]; omega
 ·unfold l6; rw [h]; omega
theorem b3l {l : List Row} {who : Int} (h : 0 ≤ l6 l who) : (nth .row l (l6 l who).toNat).who = who := by
 rcases C6 (a6k who) l with ⟨h', _⟩ | ⟨k, hk, h', h2, _⟩
 ·unfold l6 at h; omega
 ·unfold l6; rw [h']
  rw [Int.toNat_natCast, k8 .row l k hk]
  simpa [a6k] using h2
theorem a4T {m : PMap} {l : List Row} (h : z8 m l = true) {k : Nat} (hk : k < l.length) : R9 m (nth .row l k) = true ∧ (0 < k → (nth .row l (k - 1)).who < (nth .row l k).who) := by
 unfold z8 at h
 rw [Bool.and_eq_true] at h
 have := (k9 _ _).1 h.2 k hk
 simp only [I5, Bool.and_eq_true, Bool.or_eq_true, decide_eq_true_eq] at this
 exact ⟨this.1, fun h0 => this.2.resolve_left (by omega)⟩
theorem gwy_seq {m : PMap} {l : List Row} (h : z8 m l = true) {k : Nat} (hk : k < l.length) : 0 ≤ (nth .row l k).seq ∧ (nth .row l k).seq ≤ 900 := by
 have := (a4T h hk).1
 simp only [R9, decide_eq_true_eq] at this
 exact ⟨this.2.2.2.2.1, this.2.2.2.2.2.1⟩
def seqB (l : List Row) : Prop := ∀ k, k < l.length → 0 ≤ (nth .row l k).seq ∧ (nth .row l k).seq ≤ 900
theorem b0f {m : PMap} {l : List Row} (h : z8 m l = true) : seqB l := fun _ hk => gwy_seq h hk
theorem row_ext {a b : Row} : a = b ↔ a.who = b.who ∧ a.cell = b.cell ∧ a.busy = b.busy ∧ a.ord = b.ord ∧ a.seq = b.seq ∧ a.code = b.code := by
 cases a; cases b; simp
theorem c0R {a b : Gst} : a = b ↔ a.src = b.src ∧ a.count = b.count ∧ a.wlk = b.wlk := by
 cases a; cases b; simp
theorem msg_ext {a b : Msg} : a = b ↔ a.kind = b.kind ∧ a.dest = b.dest ∧ a.cell = b.cell ∧ a.side = b.side ∧ a.n = b.n ∧ a.ord = b.ord ∧ a.pcl = b.pcl ∧ a.gst = b.gst := by
 cases a; cases b; simp
structure BB where
 b : List Row
 ok : Bool
def b4u (l : List Row) (who kind dest n : Int) : Ord := ⟨who, (nth .row l (l6 l who).toNat).seq + 1, kind, dest, n⟩
def M6 (l : List Row) (who kind dest n : Int) : BB :=
 if 0 ≤ l6 l who ∧ (nth .row l (l6 l who).toNat).busy = false ∧ K6 (b4u l who kind dest n) = true then
  ⟨l.set (l6 l who).toNat ⟨(nth .row l (l6 l who).toNat).who, (nth .row l (l6 l who).toNat).cell, true, b4u l who kind dest n, (nth .row l (l6 l who).toNat).seq, (nth .row l (l6 l who).toNat).code⟩, true⟩
 else ⟨l, false⟩
def a6o (m : PMap) (l : List Row) (who kind dest n : Int) : BB := if z8 m l = true then M6 l who kind dest n else ⟨[], false⟩
def a1S (m : PMap) (l : List Hld) (i : Nat) : Bool := O1 m (nth .hld l i) && (decide (i = 0) || decide ((nth .hld l (i - 1)).state.cell < (nth .hld l i).state.cell))
def a4m (s : Srv) : Bool := s.up || decide (s.holds.length = 0 ∧ s.m9.length = 0)
def y9 (m : PMap) (s : Srv) : Bool := R7 m s.m9 && a4m s && m4 s.holds.length (a1S m s.holds)
theorem b4U {m : PMap} {s : Srv} {k : Nat} (h : k < s.holds.length) (hw : O1 m (nth .hld s.holds k) = false) : y9 m s = false := by
 have := s4 (f := a1S m s.holds) h (by simp [a1S, hw])
 simp [y9, this]
theorem b4T {m : PMap} {s : Srv} {k : Nat} (h : k < s.holds.length) (h0 : 0 < k) (hw : ¬ (nth .hld s.holds (k - 1)).state.cell < (nth .hld s.holds k).state.cell) : y9 m s = false := by
 have := s4 (f := a1S m s.holds) h (by simp [a1S, hw]; omega)
 simp [y9, this]
theorem b9C {m : PMap} {s : Srv} {k : Nat} (h : m4 k (a1S m s.holds) = true) (hk : k = s.holds.length) : y9 m s = (R7 m s.m9 && a4m s) := by
 subst hk
 simp [y9, h]
theorem a4E {m : PMap} {s : Srv} (h : y9 m s = true) {k : Nat} (hk : k < s.holds.length) : O1 m (nth .hld s.holds k) = true := by
 unfold y9 at h
 rw [Bool.and_eq_true] at h
 have := (k9 _ _).1 h.2 k hk
 simp only [a1S, Bool.and_eq_true] at this
 exact this.1
def U5 (cell : Int) (h : Hld) : Bool := decide (h.state.cell = cell)
def j5 (l : List Hld) (cell : Int) : Int := idx (U5 cell) l
def a8f (l : List Hld) (cell : Int) (j : Nat) : Bool := !U5 cell (nth .hld l j)
theorem c0P {l : List Hld} {cell : Int} {k : Nat} (h : m4 k (a8f l cell) = true) (hk : k < l.length) (hi : (nth .hld l k).state.cell = cell) : j5 l cell = k := by
 rw [k8 .hld l k hk] at hi
 refine a9Y hk (by simp [U5, hi]) fun j hj => ?_
 have := (k9 k _).1 h j hj
 simp only [a8f, Bool.not_eq_true'] at this
 rw [k8 .hld l j (by omega)] at this
 exact this
theorem b2f {l : List Hld} {cell : Int} {k : Nat} (h : m4 k (a8f l cell) = true) (hk : k = l.length) : j5 l cell = -1 := by
 subst hk
 refine a1Q fun j hj => ?_
 have := (k9 _ _).1 h j hj
 simp only [a8f, Bool.not_eq_true'] at this
 rw [k8 .hld l j hj] at this
 exact this
theorem a2w (l : List Hld) (cell : Int) : -1 ≤ j5 l cell ∧ j5 l cell < l.length := by
 rcases C6 (U5 cell) l with ⟨h, _⟩ | ⟨k, hk, h, _⟩
 ·unfold j5; rw [h]; omega
 ·unfold j5; rw [h]; omega
theorem a1R {l : List Hld} {cell : Int} (h : 0 ≤ j5 l cell) : (nth .hld l (j5 l cell).toNat).state.cell = cell := by
 rcases C6 (U5 cell) l with ⟨h', _⟩ | ⟨k, hk, h', h2, _⟩
 ·unfold j5 at h; omega
 ·unfold j5; rw [h']
  rw [Int.toNat_natCast, k8 .hld l k hk]
  simpa [U5] using h2
def e9 (s : Srv) (cell : Int) : Hld := if 0 ≤ j5 s.holds cell then nth .hld s.holds (j5 s.holds cell).toNat else a2G
def v7 (s : Srv) (cell : Int) : Bool := decide (0 ≤ j5 s.holds cell)
def a1y (m : PMap) (l : List Sto) (i : Nat) : Bool := y4 m (nth .sto l i) && decide ((nth .sto l i).base.cell = (i : Int))
def y1 (m : PMap) (l : List Sto) : Bool := decide (o8 m = true ∧ (l.length : Int) = m.cells) && m4 l.length (a1y m l)
theorem b1u {m : PMap} {l : List Sto} {k : Nat} (h : k < l.length) (hw : y4 m (nth .sto l k) = false) : y1 m l = false := by
 have := s4 (f := a1y m l) h (by simp [a1y, hw])
 simp [y1, this]
theorem b1t {m : PMap} {l : List Sto} {k : Nat} (h : k < l.length) (hw : ¬ (nth .sto l k).base.cell = (k : Int)) : y1 m l = false := by
 have := s4 (f := a1y m l) h (by simp [a1y, hw])
 simp [y1, this]
theorem b4M {m : PMap} {l : List Sto} {k : Nat} (h : m4 k (a1y m l) = true) (hk : k = l.length) : y1 m l = decide (o8 m = true ∧ (l.length : Int) = m.cells) := by
 subst hk
 simp [y1, h]
def ghTo (m : PMap) (h : Hld) (side : Int) (k : Nat) : List Gst := (flt (fun w => I2 m w.pos side) h.state.wlks k).map fun w => ⟨h.state.cell, h.count, w⟩
def m9 (m : PMap) (h : Hld) (side : Int) : List Gst := ghTo m h side h.state.wlks.length
theorem b2o (m : PMap) (h : Hld) (side : Int) : ghTo m h side 0 = [] := by simp [ghTo, a6s]
theorem b6P (m : PMap) (h : Hld) (side : Int) (k : Nat) : (ghTo m h side k).length ≤ k := by
 simp only [ghTo, List.length_map]
 exact a6t _ _ _
theorem b6O {m : PMap} {h : Hld} {side : Int} {k : Nat} (hk : k < h.state.wlks.length) (hp : I2 m (nth .wlk h.state.wlks k).pos side = true) : ghTo m h side (k + 1) = ghTo m h side k ++ [⟨h.state.cell, h.count, nth .wlk h.state.wlks k⟩] := by
 unfold ghTo
 rw [Q5 .wlk _ _ _ hk, if_pos hp]
 simp
theorem c0U {m : PMap} {h : Hld} {side : Int} {k : Nat} (hk : k < h.state.wlks.length) (hp : I2 m (nth .wlk h.state.wlks k).pos side = false) : ghTo m h side (k + 1) = ghTo m h side k := by
 unfold ghTo
 rw [Q5 .wlk _ _ _ hk, if_neg (by simp [hp])]
def O3 (l : List Gst) (g : Gst) : Nat := (l.takeWhile fun x => D1 x g).length
def a1t (l : List Gst) (g : Gst) : List Gst :=
 if O3 l g < l.length ∧ D1 g (nth .gst l (O3 l g)) = false then
  (if (nth .gst l (O3 l g)).count < g.count then l.set (O3 l g) g else l)
 else if l.length < 20 then insL l (O3 l g) [g] else l
def a3t (l : List Hld) (cell : Int) : Nat := (l.takeWhile fun h => decide (h.state.cell < cell)).length
def R5 (l : List Hld) (h : Hld) : List Hld := if 0 ≤ j5 l h.state.cell then l.set (j5 l h.state.cell).toNat h else insL l (a3t l h.state.cell) [h]
def C8 (l : List Hld) (cell : Int) : List Hld := l.filter fun h => decide (h.state.cell ≠ cell)
structure SH where
 srv : Srv
 stores : List Sto
 out : List Msg
structure SW where
 srv : Srv
 stores : List Sto
 n : Int
 k : Int
def b2M : Msg := ⟨0, 0, 0, 0, 0, ⟨0, 0, 0, 0, 0⟩, ⟨0, 0, ⟨0, 0, 0, 0, 0⟩, 0⟩, ⟨0, 0, ⟨0, 0, 0, 0, 0⟩⟩⟩
def s6 : Ord := ⟨0, 0, 0, 0, 0⟩
def u6 : Pcl := ⟨0, 0, ⟨0, 0, 0, 0, 0⟩, 0⟩
def F6 : Gst := ⟨0, 0, ⟨0, 0, 0, 0, 0⟩⟩
def A2 (m : PMap) (s : Srv) (stores : List Sto) (cell : Int) (r : Rec) : SW :=
 let w := s7 m (e9 s cell) (nth .sto stores cell.toNat) r
 if w.n = 1 then ⟨⟨s.up, R5 s.holds w.h, s.m9⟩, stores.set cell.toNat w.s, 1, w.k⟩
 else if w.n = 2 then ⟨⟨s.up, C8 s.holds cell, s.m9⟩, stores, 2, 0⟩
 else ⟨s, stores, w.n, 0⟩
def I7 (m : PMap) (s : Srv) (stores : List Sto) (x : Msg) : SH :=
 if v7 s x.cell = true ∧ x.n ≤ (e9 s x.cell).age then ⟨s, stores, []⟩
 else if x.n < (nth .sto stores x.cell.toNat).age then ⟨s, stores, []⟩
 else ⟨⟨s.up, R5 s.holds ⟨x.n, (nth .sto stores x.cell.toNat).recs.length, q9 m (nth .sto stores x.cell.toNat)⟩, s.m9⟩, stores.set x.cell.toNat ⟨x.n, (nth .sto stores x.cell.toNat).base, (nth .sto stores x.cell.toNat).recs⟩, []⟩
def a1b (x : Msg) (n : Int) : Msg := ⟨3, -1, x.cell, 0, n, x.ord, u6, F6⟩
def a6d (x : Msg) : Msg := ⟨4, -1, x.cell, 0, 0, x.ord, u6, F6⟩
def T5 (m : PMap) (s : Srv) (stores : List Sto) (x : Msg) : SH :=
 let c := (e9 s x.cell).state
 let w := A3 c.wlks x.ord.who
 if o7 c.wlks x.ord.who = false then ⟨s, stores, [a6d x]⟩
 else if x.ord.seq < w.seq then ⟨s, stores, []⟩
 else if x.ord.seq = w.seq then ⟨s, stores, if w.last = 0 then [] else [a1b x w.last]⟩
 else
  let y := A2 m s stores x.cell ⟨1, x.ord, 0, u6, 0⟩
  ⟨y.srv, y.stores, if y.n = 1 then [a1b x y.k] else []⟩
def P4 (m : PMap) (t : Arb) (x : Msg) (n : Int) : List Msg :=
 if n8 t (b7 m x.cell x.side) = -1 then [] else [⟨6, n8 t (b7 m x.cell x.side), b7 m x.cell x.side, 1 - x.side, n, s6, u6, F6⟩]
def T4 (m : PMap) (s : Srv) (stores : List Sto) (t : Arb) (x : Msg) : SH :=
 let n := nth .int (e9 s x.cell).state.ins x.side.toNat
 if x.pcl.n < n then ⟨s, stores, P4 m t x n⟩
 else
  let y := A2 m s stores x.cell ⟨2, s6, x.side, x.pcl, 0⟩
  ⟨y.srv, y.stores, if y.n = 1 then P4 m t x (n + 1) else []⟩
def n9 (m : PMap) (s : Srv) (stores : List Sto) (t : Arb) (x : Msg) : SH :=
 if s.up = false ∨ x.dest = -1 then ⟨s, stores, []⟩
 else if x.kind = 1 then I7 m s stores x
 else if x.kind = 7 then ⟨⟨s.up, s.holds, a1t s.m9 x.gst⟩, stores, []⟩
 else if v7 s x.cell = false then ⟨s, stores, []⟩
 else if x.kind = 2 then T5 m s stores x
 else if x.kind = 5 then T4 m s stores t x
 else
  let y := A2 m s stores x.cell ⟨3, s6, x.side, u6, x.n⟩
  ⟨y.srv, y.stores, []⟩
def D2 (m : PMap) (s : Srv) (stores : List Sto) (t : Arb) (servers : Int) (x : Msg) : SH :=
 if y9 m s = true ∧ y1 m stores = true ∧ A4 m t servers = true ∧ u0 m servers x = true then n9 m s stores t x else ⟨⟨false, [], []⟩, [], []⟩
def A5 (m : PMap) (t : Arb) (h : Hld) (cell : Int) (side : Int) : List Msg :=
 let there := b7 m cell side
 let server := n8 t there
 if there = -1 ∨ server = -1 then [] else
  (((nth .pcls h.state.outs side.toNat).take 4).map fun p => (⟨5, server, there, 1 - side, 0, s6, p, F6⟩ : Msg)) ++ (((m9 m h side).take 4).map fun g => (⟨7, server, there, 1 - side, 0, s6, u6, g⟩ : Msg))
def B5 (m : PMap) (s : Srv) (t : Arb) (cell : Int) : List Msg :=
 if v7 s cell = true then A5 m t (e9 s cell) cell 0 ++ A5 m t (e9 s cell) cell 1 else []
def rowAt (l : List Row) (who : Int) : Row := nth .row l (l6 l who).toNat
def y7 (m : PMap) (l : List Row) (x : Msg) : BB :=
 let r := rowAt l x.ord.who
 if 0 ≤ l6 l x.ord.who ∧ r.busy = true ∧ r.ord = x.ord then
  (if x.kind = 3 then ⟨l.set (l6 l x.ord.who).toNat ⟨r.who, x.cell, false, s6, x.ord.seq, x.n⟩, true⟩
  else if x.kind = 4 ∧ x.cell = r.cell then ⟨l.set (l6 l x.ord.who).toNat ⟨r.who, (r.cell + 1).tmod m.cells, r.busy, r.ord, r.seq, r.code⟩, false⟩
  else ⟨l, false⟩)
 else ⟨l, false⟩
def a0D (m : PMap) (l : List Row) (servers : Int) (x : Msg) : BB := if z8 m l = true ∧ u0 m servers x = true then y7 m l x else ⟨[], false⟩
structure MB where
 x : Msg
 ok : Bool
def R6 (l : List Row) (t : Arb) (who : Int) : MB :=
 if 0 ≤ l6 l who ∧ (rowAt l who).busy = true ∧ n8 t (rowAt l who).cell ≠ -1 then ⟨⟨2, n8 t (rowAt l who).cell, (rowAt l who).cell, 0, 0, (rowAt l who).ord, u6, F6⟩, true⟩ else ⟨b2M, false⟩
def a4d (m : PMap) (l : List Row) (t : Arb) (servers : Int) (who : Int) : MB := if z8 m l = true ∧ A4 m t servers = true then R6 l t who else ⟨b2M, false⟩
structure TB where
 t : Arb
 ok : Bool
def r6 (t : Arb) (servers cell server : Int) : TB :=
 if 0 ≤ cell ∧ cell < (t.servers.length : Int) ∧ 0 ≤ server ∧ server < servers ∧ nth .int t.ages cell.toNat ≠ 900 then ⟨⟨t.servers.set cell.toNat server, t.ages.set cell.toNat (nth .int t.ages cell.toNat + 1)⟩, true⟩ else ⟨t, false⟩
def M4 (m : PMap) (t : Arb) (servers cell server : Int) : TB := if A4 m t servers = true then r6 t servers cell server else ⟨⟨[], []⟩, false⟩
def a0K (w : Wld) (i : Nat) : Bool := decide ((nth .sto w.stores i).age ≤ nth .int w.table.ages i)
def a3J (t : Arb) (l : List Hld) (i : Nat) : Bool := decide ((nth .hld l i).age ≤ nth .int t.ages (nth .hld l i).state.cell.toNat)
def a2J (w : Wld) (i : Nat) : Bool := y9 w.map (nth .srv w.servers i) && m4 (nth .srv w.servers i).holds.length (a3J w.table (nth .srv w.servers i).holds)
def a6c (w : Wld) (i : Nat) : Bool := u0 w.map w.servers.length (nth .msg w.net i) && decide ((nth .msg w.net i).kind = 1 → (nth .msg w.net i).n ≤ nth .int w.table.ages (nth .msg w.net i).cell.toNat)
def a3q (n : Note) : Bool := decide (1 ≤ n.who ∧ n.who ≤ 9 ∧ 1 ≤ n.seq ∧ n.seq ≤ 900 ∧ 1 ≤ n.code ∧ n.code ≤ 9)
def b8w (w : Wld) (i : Nat) : Bool := a3q (nth .note w.notes i)
def o6 (w : Wld) : Bool := A4 w.map w.table w.servers.length && y1 w.map w.stores && z8 w.map w.rows && decide (w.net.length ≤ 40 ∧ w.notes.length ≤ 150) &&
 m4 w.stores.length (a0K w) && m4 w.servers.length (a2J w) && m4 w.net.length (a6c w) && m4 w.notes.length (b8w w)
def u5 (w : Wld) (l : List Msg) : Wld := ⟨w.map, w.servers, w.stores, w.table, w.rows, w.net ++ l.take (40 - w.net.length), w.notes⟩
def wCut (w : Wld) (i : Nat) : Wld := ⟨w.map, w.servers, w.stores, w.table, w.rows, w.net.eraseIdx i, w.notes⟩
def a2I (w : Wld) (x : Msg) : Wld :=
 let y := y7 w.map w.rows x
 ⟨w.map, w.servers, w.stores, w.table, y.b, w.net, if y.ok = true ∧ w.notes.length < 150 then w.notes ++ [⟨x.ord.who, x.ord.seq, x.n⟩] else w.notes⟩
def a1w (w : Wld) (x : Msg) : Wld :=
 let y := n9 w.map (nth .srv w.servers x.dest.toNat) w.stores w.table x
 u5 ⟨w.map, w.servers.set x.dest.toNat y.srv, y.stores, w.table, w.rows, w.net, w.notes⟩ y.out
def S7 (w : Wld) (i : Nat) : Wld :=
 let x := nth .msg w.net i
 if x.dest = -1 then a2I (wCut w i) x else a1w (wCut w i) x
def u4 (w : Wld) (e : Evt) : Wld :=
 if e.kind = 1 then
  (let y := r6 w.table w.servers.length e.pos e.dest
  if y.ok = true then u5 ⟨w.map, w.servers, w.stores, y.t, w.rows, w.net, w.notes⟩ [⟨1, e.dest, e.pos, 0, nth .int y.t.ages e.pos.toNat, s6, u6, F6⟩] else w)
 else if e.kind = 2 then ⟨w.map, w.servers, w.stores, w.table, (M6 w.rows e.pos e.what e.dest e.n).b, w.net, w.notes⟩
 else if e.kind = 3 then (if (R6 w.rows w.table e.pos).ok = true then u5 w [(R6 w.rows w.table e.pos).x] else w)
 else if 4 ≤ e.kind ∧ e.kind ≤ 6 then
  (if 0 ≤ e.pos ∧ e.pos < (w.net.length : Int) then (if e.kind = 4 then S7 w e.pos.toNat else if e.kind = 5 then wCut w e.pos.toNat else u5 w [nth .msg w.net e.pos.toNat]) else w)
 else if 7 ≤ e.kind ∧ e.kind ≤ 9 then
  (if 0 ≤ e.pos ∧ e.pos < (w.servers.length : Int) then (if e.kind = 7 then u5 w (B5 w.map (nth .srv w.servers e.pos.toNat) w.table e.dest)
   else if e.kind = 8 then ⟨w.map, w.servers.set e.pos.toNat ⟨false, [], []⟩, w.stores, w.table, w.rows, w.net, w.notes⟩
   else if (nth .srv w.servers e.pos.toNat).up = false then ⟨w.map, w.servers.set e.pos.toNat ⟨true, [], []⟩, w.stores, w.table, w.rows, w.net, w.notes⟩ else w) else w)
 else w
def a0O : Wld := ⟨⟨0, 0⟩, [], [], ⟨[], []⟩, [], [], []⟩
def m0 (w : Wld) (e : Evt) : Wld := if o6 w = true then u4 w e else a0O
def a7t (l : List Gst) (g : Gst) (i : Nat) : Bool := D1 (nth .gst l i) g
theorem a6R {α : Type} (p : α → Bool) : ∀ (l : List α) (k : Nat), k ≤ l.length → (∀ i (h : i < l.length), i < k → p l[i] = true) → (∀ h : k < l.length, p l[k] = false) → (l.takeWhile p).length = k
 | [], k, hk, _, _ => by simp at hk; simp [hk]
 | x :: l, 0, _, _, h => by
   have := h (by simp)
   simp at this
   simp [List.takeWhile_cons, this]
 | x :: l, k + 1, hk, h1, h2 => by
   have hx := h1 0 (by simp) (by omega)
   simp at hx
   rw [List.takeWhile_cons, if_pos hx, List.length_cons, a6R p l k (by simpa using hk) (fun i hi hik => h1 (i + 1) (Nat.succ_lt_succ hi) (by omega)) (fun h => h2 (Nat.succ_lt_succ h))]
theorem gst_pos {l : List Gst} {g : Gst} {k : Nat} (hk : k ≤ l.length) (h : m4 k (a7t l g) = true) (h2 : k < l.length → a7t l g k = false) : O3 l g = k := by
 refine a6R _ _ _ hk (fun i hi hik => ?_) (fun hl => ?_)
 ·have := (k9 _ _).1 h i hik
  rwa [a7t, k8 .gst l i hi] at this
 ·have := h2 hl
  rwa [a7t, k8 .gst l k hl] at this
structure GB where
 l : List Gst
 d : Bool
def O4 (l : List Gst) (g x : Gst) (o : GB) : GB :=
 if x.src = g.src ∧ x.wlk.id = g.wlk.id then ⟨o.l ++ [if x.count < g.count then g else x], true⟩
 else if o.d = false ∧ D1 g x = true ∧ l.length < 20 then ⟨o.l ++ [g] ++ [x], true⟩
 else ⟨o.l ++ [x], o.d⟩
def gpTo (l : List Gst) (g : Gst) : Nat → GB
 | 0 => ⟨[], false⟩
 | k + 1 => O4 l g (nth .gst l k) (gpTo l g k)
theorem gpTo_zero (l : List Gst) (g : Gst) : gpTo l g 0 = ⟨[], false⟩ := rfl
theorem a7B (l : List Gst) (g : Gst) (k : Nat) : gpTo l g (k + 1) = O4 l g (nth .gst l k) (gpTo l g k) := rfl
theorem gpTo_len (l : List Gst) (g : Gst) (k : Nat) : (gpTo l g k).l.length ≤ k + (if (gpTo l g k).d = true then 1 else 0) := by
 induction k with
 | zero => simp [gpTo]
 | succ k ih =>
  rw [a7B]
  unfold O4
  split
  ·simp; split at ih <;> omega
  ·split
   ·rename_i h
    simp [h.1] at ih ⊢
    omega
   ·simp
    split at ih <;> simp_all <;> omega
def c0S (l : List Gst) (g : Gst) : List Gst := if (gpTo l g l.length).d = false ∧ l.length < 20 then (gpTo l g l.length).l ++ [g] else (gpTo l g l.length).l
def a6p (m : PMap) (l : List Gst) (g : Gst) : List Gst := if B6 m l = true ∧ S4 m g = true then c0S l g else []
theorem X8 {t : RT} {β : Type} (f : t.ty → β) (l : List t.ty) {k : Nat} (h : k < l.length) : (l.take (k + 1)).map f = (l.take k).map f ++ [f (nth t l k)] := by
 rw [List.take_succ_eq_append_getElem h, List.map_append, k8 t l k h]
 rfl
theorem a5n {t : RT} {β : Type} (f : t.ty → β) (l : List t.ty) {k : Nat} (h : k ≤ l.length) (h4 : k ≤ 4) (he : ¬ (k < l.length ∧ k < 4)) : (l.take k).map f = (l.take 4).map f := by
 by_cases h5 : k = 4
 ·rw [h5]
 ·rw [List.take_of_length_le (by omega), List.take_of_length_le (by omega)]
def b7X (m : PMap) (t : Arb) (cell side : Int) (p : Pcl) : Msg := ⟨5, n8 t (b7 m cell side), b7 m cell side, 1 - side, 0, s6, p, F6⟩
def b8O (m : PMap) (t : Arb) (cell side : Int) (g : Gst) : Msg := ⟨7, n8 t (b7 m cell side), b7 m cell side, 1 - side, 0, s6, u6, g⟩
def a0x (m : PMap) (t : Arb) (h : Hld) (side : Int) (k : Nat) : List Msg := ((nth .pcls h.state.outs side.toNat).take k).map (b7X m t h.state.cell side)
def a1s (m : PMap) (t : Arb) (h : Hld) (side : Int) (k : Nat) : List Msg := ((m9 m h side).take k).map (b8O m t h.state.cell side)
theorem b5G (m : PMap) (t : Arb) (h : Hld) (side : Int) : a0x m t h side 0 = [] := by simp [a0x]
theorem b6G (m : PMap) (t : Arb) (h : Hld) (side : Int) : a1s m t h side 0 = [] := by simp [a1s]
theorem b5H (m : PMap) (t : Arb) (h : Hld) (side : Int) {k : Nat} (hk : k < (nth .pcls h.state.outs side.toNat).length) : a0x m t h side (k + 1) = a0x m t h side k ++ [b7X m t h.state.cell side (nth .pcl (nth .pcls h.state.outs side.toNat) k)] := X8 (t := .pcl) _ _ hk
theorem b6H (m : PMap) (t : Arb) (h : Hld) (side : Int) {k : Nat} (hk : k < (m9 m h side).length) : a1s m t h side (k + 1) = a1s m t h side k ++ [b8O m t h.state.cell side (nth .gst (m9 m h side) k)] := X8 (t := .gst) _ _ hk
theorem b7W (m : PMap) (t : Arb) (h : Hld) (side : Int) {k : Nat} (hk : k ≤ (nth .pcls h.state.outs side.toNat).length) (h4 : k ≤ 4) (he : ¬ (k < (nth .pcls h.state.outs side.toNat).length ∧ k < 4)) : a0x m t h side k = a0x m t h side 4 := a5n (t := .pcl) _ _ hk h4 he
theorem b8M (m : PMap) (t : Arb) (h : Hld) (side : Int) {k : Nat} (hk : k ≤ (m9 m h side).length) (h4 : k ≤ 4) (he : ¬ (k < (m9 m h side).length ∧ k < 4)) : a1s m t h side k = a1s m t h side 4 := a5n (t := .gst) _ _ hk h4 he
def a2f (m : PMap) (t : Arb) (h : Hld) (side : Int) : List Msg :=
 if b7 m h.state.cell side = -1 ∨ n8 t (b7 m h.state.cell side) = -1 then [] else a0x m t h side 4 ++ a1s m t h side 4
theorem a9q (m : PMap) (t : Arb) (h : Hld) (side : Int) (k : Nat) : (a0x m t h side k).length ≤ k := by simp [a0x]; omega
theorem b0h (m : PMap) (t : Arb) (h : Hld) (side : Int) (k : Nat) : (a1s m t h side k).length ≤ k := by simp [a1s]; omega
def b3O (cell : Int) (h : Hld) : Bool := decide (h.state.cell ≠ cell)
def O2 (l : List Hld) (cell : Int) (k : Nat) : List Hld := flt (b3O cell) l k
theorem b1i (l : List Hld) (cell : Int) : O2 l cell 0 = [] := a6s _ _
theorem b3Z (l : List Hld) (cell : Int) (k : Nat) : (O2 l cell k).length ≤ k := a6t _ _ _
theorem b3Y {l : List Hld} {cell : Int} {k : Nat} (h : k < l.length) (hi : (nth .hld l k).state.cell ≠ cell) : O2 l cell (k + 1) = O2 l cell k ++ [nth .hld l k] := by
 unfold O2
 rw [Q5 .hld _ _ _ h, if_pos (by simp [b3O, hi])]
theorem b6A {l : List Hld} {cell : Int} {k : Nat} (h : k < l.length) (hi : (nth .hld l k).state.cell = cell) : O2 l cell (k + 1) = O2 l cell k := by
 unfold O2
 rw [Q5 .hld _ _ _ h, if_neg (by simp [b3O, hi])]
theorem b4a {l : List Hld} {cell : Int} {k : Nat} (h : k = l.length) : O2 l cell k = C8 l cell := by
 subst h
 unfold O2
 rw [a8K]
 rfl
theorem b8I (l : List Hld) (cell : Int) : (C8 l cell).length ≤ l.length := by
 unfold C8
 exact List.length_filter_le _ _
structure HB where
 l : List Hld
 d : Bool
def a0C (h x : Hld) (o : HB) : HB := if o.d = false ∧ h.state.cell < x.state.cell then ⟨o.l ++ [h] ++ [x], true⟩ else ⟨o.l ++ [x], o.d⟩
def hpTo (l : List Hld) (h : Hld) : Nat → HB
 | 0 => ⟨[], false⟩
 | k + 1 => a0C h (nth .hld l k) (hpTo l h k)
theorem hpTo_zero (l : List Hld) (h : Hld) : hpTo l h 0 = ⟨[], false⟩ := rfl
theorem a7x (l : List Hld) (h : Hld) (k : Nat) : hpTo l h (k + 1) = a0C h (nth .hld l k) (hpTo l h k) := rfl
theorem hpTo_len (l : List Hld) (h : Hld) (k : Nat) : (hpTo l h k).l.length ≤ k + (if (hpTo l h k).d = true then 1 else 0) := by
 induction k with
 | zero => simp [hpTo]
 | succ k ih =>
  rw [a7x]
  unfold a0C
  split
  ·rename_i h
   simp [h.1] at ih ⊢
   omega
  ·simp
   split at ih <;> simp_all <;> omega
def c0M (l : List Hld) (h : Hld) : List Hld := if (hpTo l h l.length).d = false then (hpTo l h l.length).l ++ [h] else (hpTo l h l.length).l
def a4a (l : List Hld) (h : Hld) : List Hld := c0M (C8 l h.state.cell) h
theorem a1A {m : PMap} {s : Srv} (h : y9 m s = true) : ∀ {i j : Nat}, i < j → j < s.holds.length → (nth .hld s.holds i).state.cell < (nth .hld s.holds j).state.cell := by
 have hs : ∀ k, k < s.holds.length → 0 < k → (nth .hld s.holds (k - 1)).state.cell < (nth .hld s.holds k).state.cell := fun k hk h0 => by
  unfold y9 at h
  rw [Bool.and_eq_true] at h
  have := (k9 _ _).1 h.2 k hk
  simp only [a1S, Bool.and_eq_true, Bool.or_eq_true, decide_eq_true_eq] at this
  exact this.2.resolve_left (by omega)
 intro i j hij hj
 induction j with
 | zero => omega
 | succ j ih =>
  have h1 := hs (j + 1) hj (by omega)
  simp only [Nat.add_sub_cancel] at h1
  by_cases he : i = j
  ·subst he; exact h1
  ·have := ih (by omega) (by omega)
   omega
theorem a5q {m : PMap} {s : Srv} (h : y9 m s = true) : s.holds.length ≤ 4 := by
 by_cases h4 : s.holds.length ≤ 4
 ·exact h4
 ·exfalso
  have c := fun k (hk : k < s.holds.length) => (n0 (y0.1 (a4E h hk)).2.2)
  have o1 := a1A h (i := 0) (j := 1) (by omega) (by omega)
  have o2 := a1A h (i := 1) (j := 2) (by omega) (by omega)
  have o3 := a1A h (i := 2) (j := 3) (by omega) (by omega)
  have o4 := a1A h (i := 3) (j := 4) (by omega) (by omega)
  obtain ⟨_, hp, c0, _⟩ := c 0 (by omega)
  obtain ⟨_, _, _, c4, _⟩ := c 4 (by omega)
  obtain ⟨_, h4', _, _⟩ := p5.1 hp
  omega
theorem idx_cons {α : Type} (p : α → Bool) (x : α) (l : List α) : idx p (x :: l) = if p x = true then 0 else if idx p l = -1 then -1 else idx p l + 1 := by
 unfold idx
 rw [List.findIdx?_cons]
 by_cases h : p x = true
 ·simp [h]
 ·simp [h]
  cases l.findIdx? p with
  | none => simp
  | some i =>
   have : ¬ ((i : Int) = -1) := by omega
   simp [this]
theorem idx_ge {α : Type} (p : α → Bool) (l : List α) : -1 ≤ idx p l := by
 unfold idx
 split <;> omega
def putH : List Hld → Hld → List Hld
 | [], h => [h]
 | x :: l, h => if h.state.cell < x.state.cell then h :: x :: l else if h.state.cell = x.state.cell then h :: l else x :: putH l h
def insH : List Hld → Hld → List Hld
 | [], h => [h]
 | x :: l, h => if h.state.cell < x.state.cell then h :: x :: l else x :: insH l h
abbrev HSort (l : List Hld) : Prop := l.Pairwise fun a b => a.state.cell < b.state.cell
theorem b0b {m : PMap} {s : Srv} (h : y9 m s = true) : HSort s.holds := by
 refine List.pairwise_iff_getElem.2 ?_
 intro i j hi hj hij
 have := a1A h hij hj
 rwa [k8 .hld _ _ hi, k8 .hld _ _ hj] at this
def a2v (h : Hld) (o : HB) (l : List Hld) : HB := l.foldl (fun o x => a0C h x o) o
theorem hpTo_fold (l : List Hld) (h : Hld) (k : Nat) (hk : k ≤ l.length) : hpTo l h k = a2v h ⟨[], false⟩ (l.take k) := by
 induction k with
 | zero => rfl
 | succ k ih =>
  rw [a7x, ih (by omega), k8 .hld l k (by omega)]
  have e : l.take (k + 1) = l.take k ++ [l[k]] := List.take_succ_eq_append_getElem (by omega)
  rw [e]
  simp only [a2v, List.foldl_append, List.foldl_cons, List.foldl_nil]
theorem a8k (h : Hld) : ∀ (l acc : List Hld), a2v h ⟨acc, true⟩ l = ⟨acc ++ l, true⟩
 | [], acc => by simp [a2v]
 | x :: l, acc => by
  have := a8k h l (acc ++ [x])
  simp only [a2v, List.foldl_cons] at this ⊢
  rw [show a0C h x ⟨acc, true⟩ = ⟨acc ++ [x], true⟩ by simp [a0C], this]
  simp
def c0N (h : Hld) (o : HB) : List Hld := if o.d = false then o.l ++ [h] else o.l
theorem b0c (h : Hld) : ∀ (l acc : List Hld), c0N h (a2v h ⟨acc, false⟩ l) = acc ++ insH l h
 | [], acc => by simp [a2v, c0N, insH]
 | x :: l, acc => by
  by_cases hx : h.state.cell < x.state.cell
  ·have := a8k h l (acc ++ [h] ++ [x])
   simp only [a2v, List.foldl_cons] at this ⊢
   rw [show a0C h x ⟨acc, false⟩ = ⟨acc ++ [h] ++ [x], true⟩ by simp [a0C, hx], this]
   simp [c0N, insH, hx]
  ·have := b0c h l (acc ++ [x])
   simp only [a2v, List.foldl_cons] at this ⊢
   rw [show a0C h x ⟨acc, false⟩ = ⟨acc ++ [x], false⟩ by simp [a0C, hx], this]
   simp [insH, hx]
theorem hpOut_eq (l : List Hld) (h : Hld) : c0M l h = insH l h := by
 have h1 := hpTo_fold l h l.length (Nat.le_refl _)
 have h2 := b0c h l []
 rw [List.take_length] at h1
 rw [← h1] at h2
 simpa [c0M, c0N] using h2
theorem b8E {l : List Hld} {h : Hld} (hl : ∀ x ∈ l, h.state.cell < x.state.cell) : insH l h = h :: l := by
 cases l with
 | nil => rfl
 | cons x l => simp [insH, hl x (by simp)]
theorem a6l {l : List Hld} {c : Int} (hl : ∀ x ∈ l, x.state.cell ≠ c) : C8 l c = l := by
 unfold C8
 rw [List.filter_eq_self]
 intro x hx
 simp [hl x hx]
theorem b6z : ∀ {l : List Hld} {h : Hld}, HSort l → a4a l h = putH l h := by
 intro l h hs
 unfold a4a
 rw [hpOut_eq]
 induction l with
 | nil => rfl
 | cons x l ih =>
  obtain ⟨hx, hl⟩ := List.pairwise_cons.1 hs
  by_cases h1 : h.state.cell < x.state.cell
  ·rw [a6l (fun y hy => ?_)]
   ·simp [putH, insH, h1]
   ·rcases List.mem_cons.1 hy with rfl | hy
    ·omega
    ·have := hx y hy; omega
  ·by_cases h2 : h.state.cell = x.state.cell
   ·have : C8 (x :: l) h.state.cell = l := by
     rw [show C8 (x :: l) h.state.cell = C8 l h.state.cell by simp [C8, h2]]
     exact a6l fun y hy => by have := hx y hy; omega
    rw [this, b8E (fun y hy => by have := hx y hy; omega)]
    simp [putH, h2]
   ·rw [show C8 (x :: l) h.state.cell = x :: C8 l h.state.cell by
     have : ¬ x.state.cell = h.state.cell := fun hh => h2 hh.symm
     simp [C8, this]]
    simp [putH, insH, h1, h2, ih hl]
theorem a2x : ∀ {l : List Hld} {h : Hld}, HSort l → R5 l h = putH l h := by
 intro l h hs
 induction l with
 | nil => simp [R5, j5, idx, insL, a3t, putH]
 | cons x l ih =>
  obtain ⟨hx, hl⟩ := List.pairwise_cons.1 hs
  have hi := idx_cons (U5 h.state.cell) x l
  have hge := idx_ge (U5 h.state.cell) l
  by_cases h1 : h.state.cell < x.state.cell
  ·have hno : j5 (x :: l) h.state.cell = -1 := by
    rcases C6 (U5 h.state.cell) (x :: l) with ⟨e, _⟩ | ⟨k, hk, e, h2, _⟩
    ·exact e
    ·exfalso
     simp only [U5, decide_eq_true_eq] at h2
     have hm := List.getElem_mem hk
     rcases List.mem_cons.1 hm with he | he
     ·rw [he] at h2; omega
     ·have := hx _ he; omega
   rw [R5, hno, if_neg (by omega)]
   have : a3t (x :: l) h.state.cell = 0 := by
    simp [a3t, List.takeWhile_cons, show ¬ x.state.cell < h.state.cell by omega]
   simp [this, insL, putH, h1]
  ·by_cases h2 : h.state.cell = x.state.cell
   ·have he : j5 (x :: l) h.state.cell = 0 := by
     unfold j5
     rw [hi, if_pos (by simp [U5, h2])]
    rw [R5, he]
    simp [putH, h2]
   ·have ih := ih hl
    have he : j5 (x :: l) h.state.cell = if j5 l h.state.cell = -1 then -1 else j5 l h.state.cell + 1 := by
     unfold j5
     rw [hi, if_neg (by simp [U5]; omega)]
    have hp : a3t (x :: l) h.state.cell = a3t l h.state.cell + 1 := by
     simp [a3t, List.takeWhile_cons, show x.state.cell < h.state.cell by omega]
    unfold R5 at ih ⊢
    have hge' : -1 ≤ j5 l h.state.cell := hge
    generalize j5 (x :: l) h.state.cell = P at *
    generalize j5 l h.state.cell = R at *
    by_cases h0 : 0 ≤ R
    ·rw [if_pos h0] at ih
     rw [if_neg (by omega)] at he
     subst he
     rw [if_pos (by omega), show (R + 1).toNat = R.toNat + 1 by omega, List.set_cons_succ, ih]
     simp [putH, h1, h2]
    ·rw [if_neg h0] at ih
     rw [if_pos (by omega)] at he
     subst he
     rw [if_neg (by omega), hp]
     simp only [insL, List.take_succ_cons, List.drop_succ_cons, List.cons_append] at ih ⊢
     rw [ih]
     simp [putH, h1, h2]
theorem b8H {l : List Hld} {h : Hld} (hs : HSort l) : a4a l h = R5 l h := by rw [b6z hs, a2x hs]
abbrev GSort (l : List Gst) : Prop := l.Pairwise fun a b => D1 a b = true
theorem F9 {a b : Gst} : D1 a b = true ↔ a.src < b.src ∨ a.src = b.src ∧ a.wlk.id < b.wlk.id := by simp [D1]
theorem b0i {m : PMap} {l : List Gst} (h : B6 m l = true) : GSort l := by
 have hs : ∀ k, k < l.length → 0 < k → D1 (nth .gst l (k - 1)) (nth .gst l k) = true := fun k hk h0 => by
  unfold B6 at h
  rw [Bool.and_eq_true] at h
  have := (k9 _ _).1 h.2 k hk
  simp only [a1T, Bool.and_eq_true, Bool.or_eq_true, decide_eq_true_eq] at this
  exact this.2.resolve_left (by omega)
 have hall : ∀ j, j < l.length → ∀ i, i < j → D1 (nth .gst l i) (nth .gst l j) = true := by
  intro j
  induction j with
  | zero => intro _ i hi; omega
  | succ j ih =>
   intro hj i hi
   have h1 := hs (j + 1) hj (by omega)
   simp only [Nat.add_sub_cancel] at h1
   by_cases he : i = j
   ·subst he; exact h1
   ·have h2 := ih (by omega) i (by omega)
    rw [F9] at h1 h2 ⊢
    omega
 refine List.pairwise_iff_getElem.2 ?_
 intro i j hi hj hij
 have := hall j hj i hij
 rwa [k8 .gst _ _ hi, k8 .gst _ _ hj] at this
def a6j (x g : Gst) : Gst := if x.count < g.count then g else x
def putG (room : Bool) : List Gst → Gst → List Gst
 | [], g => if room = true then [g] else []
 | x :: l, g => if D1 g x = true then (if room = true then g :: x :: l else x :: l) else if x.src = g.src ∧ x.wlk.id = g.wlk.id then a6j x g :: l else x :: putG room l g
def U7 (L : List Gst) (g : Gst) (o : GB) (l : List Gst) : GB := l.foldl (fun o x => O4 L g x o) o
theorem gpTo_fold (l : List Gst) (g : Gst) (k : Nat) (hk : k ≤ l.length) : gpTo l g k = U7 l g ⟨[], false⟩ (l.take k) := by
 induction k with
 | zero => rfl
 | succ k ih =>
  rw [a7B, ih (by omega), k8 .gst l k (by omega)]
  have e : l.take (k + 1) = l.take k ++ [l[k]] := List.take_succ_eq_append_getElem (by omega)
  rw [e]
  simp only [U7, List.foldl_append, List.foldl_cons, List.foldl_nil]
theorem a3v (L : List Gst) (g : Gst) : ∀ (l acc : List Gst), (∀ x ∈ l, ¬ (x.src = g.src ∧ x.wlk.id = g.wlk.id)) → U7 L g ⟨acc, true⟩ l = ⟨acc ++ l, true⟩
 | [], acc, _ => by simp [U7]
 | x :: l, acc, hl => by
  have := a3v L g l (acc ++ [x]) fun y hy => hl y (List.mem_cons_of_mem _ hy)
  simp only [U7, List.foldl_cons] at this ⊢
  rw [show O4 L g x ⟨acc, true⟩ = ⟨acc ++ [x], true⟩ by simp [O4, hl x (by simp)], this]
  simp
theorem a8m (L : List Gst) (g : Gst) (hL : ¬ L.length < 20) : ∀ (l acc : List Gst), (∀ x ∈ l, ¬ (x.src = g.src ∧ x.wlk.id = g.wlk.id)) → (U7 L g ⟨acc, false⟩ l).l = acc ++ l
 | [], acc, _ => by simp [U7]
 | x :: l, acc, hl => by
  have := a8m L g hL l (acc ++ [x]) fun y hy => hl y (List.mem_cons_of_mem _ hy)
  simp only [U7, List.foldl_cons] at this ⊢
  rw [show O4 L g x ⟨acc, false⟩ = ⟨acc ++ [x], false⟩ by simp [O4, hl x (by simp), hL], this]
  simp
def b2l (L : List Gst) (g : Gst) (o : GB) : List Gst := if o.d = false ∧ L.length < 20 then o.l ++ [g] else o.l
theorem b0j (L : List Gst) (g : Gst) : ∀ (l acc : List Gst), GSort l → b2l L g (U7 L g ⟨acc, false⟩ l) = acc ++ putG (decide (L.length < 20)) l g
 | [], acc, _ => by by_cases h : L.length < 20 <;> simp [U7, b2l, putG, h]
 | x :: l, acc, hs => by
  obtain ⟨hx, hl⟩ := List.pairwise_cons.1 hs
  by_cases h1 : D1 g x = true
  ·have hne : ∀ y ∈ l, ¬ (y.src = g.src ∧ y.wlk.id = g.wlk.id) := fun y hy => by
    have := hx y hy
    rw [F9] at this h1
    omega
   have hnx : ¬ (x.src = g.src ∧ x.wlk.id = g.wlk.id) := by rw [F9] at h1; omega
   by_cases hL : L.length < 20
   ·have := a3v L g l (acc ++ [g] ++ [x]) hne
    simp only [U7, List.foldl_cons] at this ⊢
    rw [show O4 L g x ⟨acc, false⟩ = ⟨acc ++ [g] ++ [x], true⟩ by simp [O4, hnx, h1, hL], this]
    simp [b2l, putG, h1, hL]
   ·have := a8m L g hL l (acc ++ [x]) hne
    simp only [U7, List.foldl_cons] at this ⊢
    rw [show O4 L g x ⟨acc, false⟩ = ⟨acc ++ [x], false⟩ by simp [O4, hnx, hL]]
    simp [b2l, putG, h1, hL, this]
  ·by_cases h2 : x.src = g.src ∧ x.wlk.id = g.wlk.id
   ·have hne : ∀ y ∈ l, ¬ (y.src = g.src ∧ y.wlk.id = g.wlk.id) := fun y hy => by
     have := hx y hy
     rw [F9] at this
     omega
    have := a3v L g l (acc ++ [a6j x g]) hne
    simp only [U7, List.foldl_cons] at this ⊢
    rw [show O4 L g x ⟨acc, false⟩ = ⟨acc ++ [a6j x g], true⟩ by simp [O4, h2, a6j], this]
    simp [b2l, putG, h1, h2]
   ·have := b0j L g l (acc ++ [x]) hl
    simp only [U7, List.foldl_cons] at this ⊢
    rw [show O4 L g x ⟨acc, false⟩ = ⟨acc ++ [x], false⟩ by simp [O4, h1, h2], this]
    simp [putG, h1, h2]
theorem gpOut_put {l : List Gst} {g : Gst} (hs : GSort l) : c0S l g = putG (decide (l.length < 20)) l g := by
 have h1 := gpTo_fold l g l.length (Nat.le_refl _)
 have h2 := b0j l g l [] hs
 rw [List.take_length] at h1
 rw [← h1] at h2
 simpa [c0S, b2l] using h2
theorem b6J (x : Gst) (l : List Gst) (g : Gst) : O3 (x :: l) g = if D1 x g = true then O3 l g + 1 else 0 := by
 unfold O3
 rw [List.takeWhile_cons]
 split <;> simp
theorem b2k (room : Bool) : ∀ (l : List Gst) (g : Gst), GSort l → (if O3 l g < l.length ∧ D1 g (nth .gst l (O3 l g)) = false then
  (if (nth .gst l (O3 l g)).count < g.count then l.set (O3 l g) g else l)
 else if room = true then insL l (O3 l g) [g] else l) = putG room l g
 | [], g, _ => by simp [O3, insL, putG]
 | x :: l, g, hs => by
  obtain ⟨hx, hl⟩ := List.pairwise_cons.1 hs
  have ih := b2k room l g hl
  rw [b6J]
  by_cases h1 : D1 x g = true
  ·have hn : D1 g x = false := by
    cases hh : D1 g x with
    | false => rfl
    | true => rw [F9] at h1 hh; omega
   have hne : ¬ (x.src = g.src ∧ x.wlk.id = g.wlk.id) := by rw [F9] at h1; omega
   rw [if_pos h1]
   have hnth : nth .gst (x :: l) (O3 l g + 1) = nth .gst l (O3 l g) := by simp [nth]
   rw [hnth]
   simp only [List.length_cons, Nat.add_lt_add_iff_right, List.set_cons_succ, insL, List.take_succ_cons, List.drop_succ_cons, List.cons_append]
   simp only [putG, hn, hne, if_false, Bool.false_eq_true]
   rw [← ih]
   simp only [insL]
   split
   ·split <;> rfl
   ·split <;> rfl
  ·rw [if_neg h1]
   have hnth : nth .gst (x :: l) 0 = x := by simp [nth]
   rw [hnth]
   by_cases h2 : D1 g x = true
   ·rw [if_neg (by simp [h2])]
    simp [putG, h2, insL]
   ·have he : x.src = g.src ∧ x.wlk.id = g.wlk.id := by rw [F9] at h1 h2; omega
    rw [if_pos ⟨by simp, by simpa using h2⟩]
    simp only [putG, h2, he, a6j, List.set_cons_zero]
    by_cases h3 : x.count < g.count <;> simp [h3]
theorem a4U {l : List Gst} {g : Gst} (hs : GSort l) : a1t l g = putG (decide (l.length < 20)) l g := by
 have := b2k (decide (l.length < 20)) l g hs
 rw [← this]
 simp [a1t]
theorem b8N {m : PMap} {l : List Gst} {g : Gst} (hl : B6 m l = true) (hg : S4 m g = true) : a6p m l g = a1t l g := by
 rw [a6p, if_pos ⟨hl, hg⟩, gpOut_put (b0i hl), a4U (b0i hl)]
def a3G (l : List Hld) (cell : Int) (i : Nat) : Bool := decide ((nth .hld l i).state.cell < cell)
theorem hld_pos {l : List Hld} {cell : Int} {k : Nat} (hk : k ≤ l.length) (h : m4 k (a3G l cell) = true) (h2 : k < l.length → ¬ (nth .hld l k).state.cell < cell) : a3t l cell = k := by
 refine a6R _ _ _ hk (fun i hi hik => ?_) (fun hl => ?_)
 ·have := (k9 _ _).1 h i hik
  rwa [a3G, k8 .hld l i hi] at this
 ·have := h2 hl
  rw [k8 .hld l k hl] at this
  simpa using this
end Go.Mo
