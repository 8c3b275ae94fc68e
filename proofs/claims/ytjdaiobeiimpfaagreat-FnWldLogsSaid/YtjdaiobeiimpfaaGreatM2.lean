/-
  Plain law: in a log that fits no order stands twice.
-/
import Derived.Test.YtjdaiobeiimpfaaGreatM1
import Derived.Test.YtjdaiobeiimpfaaGreatS5
set_option linter.unusedVariables false
set_option linter.unusedSimpArgs false
namespace Go.Mo
open Go.Sx
def past (c : Cll) (who seq : Int) : Prop := ∀ v ∈ c.wlks, v.id = who → seq ≤ v.seq
def zeroS : Sto := ⟨0, zeroC, []⟩
def zeroH : Hld := ⟨0, 0, zeroC⟩
def stoOk (m : PMap) (s : Sto) : Bool := decide (0 ≤ s.age ∧ s.age ≤ 900 ∧ cllOk m s.base = true ∧ s.recs.length ≤ 250 ∧ foldN m s.base s.recs = s.recs.length)
theorem stoOk_iff {m : PMap} {s : Sto} : stoOk m s = true ↔ (0 ≤ s.age ∧ s.age ≤ 900) ∧ cllOk m s.base = true ∧ s.recs.length ≤ 250 ∧ foldN m s.base s.recs = s.recs.length := by simp [stoOk, and_assoc]
def stoState (m : PMap) (s : Sto) : Cll := foldC m s.base s.recs
def stoStateX (m : PMap) (s : Sto) : Cll := if stoOk m s = true then stoState m s else zeroC
theorem state_ok {m : PMap} {s : Sto} (h : stoOk m s = true) : cllOk m (stoState m s) = true := foldC_ok (stoOk_iff.1 h).2.1
structure SOk where
 s : Sto
 ok : Bool
def stoFence (m : PMap) (s : Sto) (age : Int) : SOk :=
 if stoOk m s = true ∧ 0 ≤ age ∧ age ≤ 900 then (if age < s.age then ⟨s, false⟩ else ⟨⟨age, s.base, s.recs⟩, true⟩) else ⟨zeroS, false⟩
structure SN where
 s : Sto
 n : Int
def stoAdd (m : PMap) (s : Sto) (age pos : Int) (r : Rec) : SN :=
 if ¬ age = s.age then ⟨s, 2⟩
 else if ¬ pos = (s.recs.length : Int) ∨ pos = 250 then ⟨s, 3⟩
 else if logOk m r = true ∧ (cllApply m (stoState m s) r).ok = true then ⟨⟨s.age, s.base, s.recs ++ [r]⟩, 1⟩
 else ⟨s, 4⟩
def stoAppend (m : PMap) (s : Sto) (age pos : Int) (r : Rec) : SN := if stoOk m s = true then stoAdd m s age pos r else ⟨zeroS, 0⟩
def hldOk (m : PMap) (h : Hld) : Bool := decide (1 ≤ h.age ∧ h.age ≤ 900 ∧ 0 ≤ h.count ∧ h.count ≤ 250 ∧ cllOk m h.state = true)
theorem hldOk_iff {m : PMap} {h : Hld} : hldOk m h = true ↔ (1 ≤ h.age ∧ h.age ≤ 900) ∧ (0 ≤ h.count ∧ h.count ≤ 250) ∧ cllOk m h.state = true := by simp [hldOk, and_assoc]
structure HSO where
 h : Hld
 s : Sto
 ok : Bool
def hldOpen (m : PMap) (s : Sto) (age : Int) : HSO :=
 if stoOk m s = true ∧ 1 ≤ age ∧ age ≤ 900 then (if age < s.age then ⟨zeroH, s, false⟩ else ⟨⟨age, s.recs.length, stoState m s⟩, ⟨age, s.base, s.recs⟩, true⟩) else ⟨zeroH, zeroS, false⟩
structure HSN where
 h : Hld
 s : Sto
 n : Int
 k : Int
def hldWrite (m : PMap) (h : Hld) (s : Sto) (r : Rec) : HSN :=
 if hldOk m h = true ∧ stoOk m s = true then
  (if ¬ (stoAdd m s h.age h.count r).n = 1 then ⟨h, s, (stoAdd m s h.age h.count r).n, 0⟩
  else if (cllApply m h.state r).ok = false then ⟨h, s, 4, 0⟩
  else ⟨⟨h.age, h.count + 1, (cllApply m h.state r).c⟩, (stoAdd m s h.age h.count r).s, 1, (cllApply m h.state r).code⟩)
 else ⟨zeroH, zeroS, 0, 0⟩
theorem nth_app (t : RT) {l : List t.ty} {x : t.ty} {k : Nat} (h : k < l.length) : nth t (l ++ [x]) k = nth t l k := by
 rw [nth_lt t l k h, nth_lt t _ k (by simp; omega), List.getElem_append_left h]
theorem nth_last (t : RT) {l : List t.ty} {x : t.ty} : nth t (l ++ [x]) l.length = x := by simp [nth, List.getD]
theorem foldTo_app {m : PMap} {c : Cll} {l : List Rec} {r : Rec} : ∀ {k : Nat}, k ≤ l.length → foldTo m c (l ++ [r]) k = foldTo m c l k
 | 0, _ => rfl
 | k + 1, h => by rw [foldTo_succ, foldTo_succ, foldTo_app (by omega), nth_app .rcd (by omega)]
theorem fitAt_app {m : PMap} {c : Cll} {l : List Rec} {r : Rec} {k : Nat} (h : k < l.length) : fitAt m c (l ++ [r]) k = fitAt m c l k := by
 unfold fitAt
 rw [foldTo_app (by omega), nth_app .rcd h]
theorem fits_all {m : PMap} {c : Cll} {l : List Rec} (h : foldN m c l = l.length) : allTo l.length (fitAt m c l) = true := by
 have := foldN_fits m c l
 rw [h] at this
 exact this
theorem foldC_all {m : PMap} {c : Cll} {l : List Rec} (h : foldN m c l = l.length) : foldC m c l = foldTo m c l l.length := by rw [foldC, h]
theorem foldN_app {m : PMap} {c : Cll} {l : List Rec} {r : Rec} (h : foldN m c l = l.length) (hr : logOk m r = true) (ha : (cllApply m (foldC m c l) r).ok = true) : foldN m c (l ++ [r]) = (l ++ [r]).length := by
 have h1 := fits_all h
 refine foldN_all rfl ?_
 rw [List.length_append, List.length_singleton, allTo_succ, Bool.and_eq_true]
 refine ⟨?_, ?_⟩
 ·rw [allTo_iff] at h1 ⊢
  intro i hi
  rw [fitAt_app hi]
  exact h1 i hi
 ·unfold fitAt
  rw [foldTo_app (Nat.le_refl _), nth_last .rcd, ← foldC_all h, hr, ha]
  rfl
theorem foldC_app {m : PMap} {c : Cll} {l : List Rec} {r : Rec} (h : foldN m c l = l.length) (hr : logOk m r = true) (ha : (cllApply m (foldC m c l) r).ok = true) : foldC m c (l ++ [r]) = (cllApply m (foldC m c l) r).c := by
 rw [foldC_all (foldN_app h hr ha), List.length_append, List.length_singleton, foldTo_succ, foldTo_app (Nat.le_refl _), nth_last .rcd, ← foldC_all h]
theorem add_cases (m : PMap) (s : Sto) (age pos : Int) (r : Rec) : ((stoAdd m s age pos r).s = s ∧ ((stoAdd m s age pos r).n = 2 ∧ age ≠ s.age ∨ (stoAdd m s age pos r).n = 3 ∧ age = s.age ∧ (pos ≠ s.recs.length ∨ pos = 250) ∨ (stoAdd m s age pos r).n = 4 ∧ age = s.age ∧ ¬ (logOk m r = true ∧ (cllApply m (stoState m s) r).ok = true))) ∨
  ((stoAdd m s age pos r).s = ⟨s.age, s.base, s.recs ++ [r]⟩ ∧ (stoAdd m s age pos r).n = 1 ∧ age = s.age ∧ pos = s.recs.length ∧ pos ≠ 250 ∧ logOk m r = true ∧ (cllApply m (stoState m s) r).ok = true) := by
 unfold stoAdd
 split
 ·exact .inl ⟨rfl, .inl ⟨rfl, by assumption⟩⟩
 split
 ·rename_i h1 h2
  exact .inl ⟨rfl, .inr (.inl ⟨rfl, Classical.not_not.1 h1, h2⟩)⟩
 split
 ·rename_i h1 h2 h3
  exact .inr ⟨rfl, rfl, Classical.not_not.1 h1, by omega, by omega, h3.1, h3.2⟩
 ·rename_i h1 h2 h3
  exact .inl ⟨rfl, .inr (.inr ⟨rfl, Classical.not_not.1 h1, h3⟩)⟩
theorem apX {m : PMap} {c : Cll} {r : Rec} (hc : cllOk m c = true) (hr : logOk m r = true) : cllApplyX m c r = cllApply m c r := by rw [cllApplyX, if_pos ⟨hc, hr⟩]
theorem stateX {m : PMap} {s : Sto} (h : stoOk m s = true) : stoStateX m s = stoState m s := by rw [stoStateX, if_pos h]
theorem append_add {m : PMap} {s : Sto} {a b : Int} {r : Rec} (h : stoOk m s = true) : stoAppend m s a b r = stoAdd m s a b r := by rw [stoAppend, if_pos h]
theorem append_not {m : PMap} {s : Sto} {a b : Int} {r : Rec} (h : stoOk m s = true) (hn : ¬ (stoAppend m s a b r).n = 1) : (stoAppend m s a b r).s = s := by
 rw [append_add h] at *
 rcases add_cases m s a b r with ⟨h1, h2⟩ | ⟨h1, h2, _⟩
 ·exact h1
 ·exact absurd h2 hn
theorem age_ok {m : PMap} {s : Sto} {a : Int} (h : stoOk m s = true) (h1 : 0 ≤ a) (h2 : a ≤ 900) : stoOk m ⟨a, s.base, s.recs⟩ = true ∧ stoStateX m ⟨a, s.base, s.recs⟩ = stoStateX m s := by
 have h3 := stoOk_iff.1 h
 have h4 : stoOk m ⟨a, s.base, s.recs⟩ = true := stoOk_iff.2 ⟨⟨h1, h2⟩, h3.2⟩
 exact ⟨h4, by rw [stateX h, stateX h4]; rfl⟩
theorem write_fenced {m : PMap} {h : Hld} {s : Sto} {r : Rec} (hh : hldOk m h = true) (hs : stoOk m s = true) (ha : ¬ h.age = s.age) : (hldWrite m h s r).h = h ∧ (hldWrite m h s r).s = s ∧ (hldWrite m h s r).n = 2 := by
 have e : stoAdd m s h.age h.count r = ⟨s, 2⟩ := by rw [stoAdd, if_pos ha]
 rw [hldWrite, if_pos ⟨hh, hs⟩, e, if_pos (fun hh : (2 : Int) = 1 => by cases hh)]
 exact ⟨rfl, rfl, rfl⟩
def gstOk (m : PMap) (g : Gst) : Bool := decide (0 ≤ g.count ∧ g.count ≤ 250 ∧ wlkOk m g.wlk = true ∧ plcCell m g.wlk.pos = g.src ∧ (plcEdge m g.wlk.pos 0 = true ∨ plcEdge m g.wlk.pos 1 = true))
def gstLess (a b : Gst) : Bool := decide (a.src < b.src ∨ a.src = b.src ∧ a.wlk.id < b.wlk.id)
def gstAt (m : PMap) (l : List Gst) (i : Nat) : Bool := gstOk m (nth .gst l i) && (decide (i = 0) || gstLess (nth .gst l (i - 1)) (nth .gst l i))
def gstsOkS (m : PMap) (l : List Gst) : Bool := decide (l.length ≤ 20) && allTo l.length (gstAt m l)
def gstsOk (m : PMap) (l : List Gst) : Bool := plcOk m && gstsOkS m l
theorem gsts_bad1 {m : PMap} {l : List Gst} {k : Nat} (h : k < l.length) (hw : gstOk m (nth .gst l k) = false) : gstsOkS m l = false := by
 have := allTo_false (f := gstAt m l) h (by simp [gstAt, hw])
 simp [gstsOkS, this]
theorem gsts_bad2 {m : PMap} {l : List Gst} {k : Nat} (h : k < l.length) (h0 : 0 < k) (hw : gstLess (nth .gst l (k - 1)) (nth .gst l k) = false) : gstsOkS m l = false := by
 have := allTo_false (f := gstAt m l) h (by simp [gstAt, hw]; omega)
 simp [gstsOkS, this]
theorem gsts_long {m : PMap} {l : List Gst} (h : 20 < l.length) : gstsOkS m l = false := by
 simp [gstsOkS]
 omega
theorem gsts_all {m : PMap} {l : List Gst} {k : Nat} (h : allTo k (gstAt m l) = true) (hk : k = l.length) (hl : l.length ≤ 20) : gstsOkS m l = true := by
 subst hk
 simp [gstsOkS, h, hl]
def arbAt (t : Arb) (servers : Int) (i : Nat) : Bool := decide (-1 ≤ nth .int t.servers i ∧ nth .int t.servers i ≤ servers - 1 ∧ 0 ≤ nth .int t.ages i ∧ nth .int t.ages i ≤ 900 ∧ (nth .int t.servers i = -1 ↔ nth .int t.ages i = 0))
def arbHead (m : PMap) (t : Arb) (servers : Int) : Bool := decide (plcOk m = true ∧ 1 ≤ servers ∧ servers ≤ 3 ∧ (t.servers.length : Int) = m.cells ∧ (t.ages.length : Int) = m.cells)
def arbOk (m : PMap) (t : Arb) (servers : Int) : Bool := arbHead m t servers && allTo t.servers.length (arbAt t servers)
theorem arb_bad {m : PMap} {t : Arb} {servers : Int} {k : Nat} (h : k < t.servers.length) (hw : arbAt t servers k = false) : arbOk m t servers = false := by
 have := allTo_false (f := arbAt t servers) h hw
 simp [arbOk, this]
theorem arb_at {m : PMap} {t : Arb} {servers : Int} {k : Nat} (h : arbOk m t servers = true) (hk : k < t.servers.length) : -1 ≤ nth .int t.servers k ∧ nth .int t.servers k ≤ servers - 1 ∧ 0 ≤ nth .int t.ages k ∧ nth .int t.ages k ≤ 900 ∧ (nth .int t.servers k = -1 ↔ nth .int t.ages k = 0) := by
 unfold arbOk at h
 rw [Bool.and_eq_true] at h
 have := (allTo_iff _ _).1 h.2 k hk
 simpa [arbAt] using this
theorem arb_cell {m : PMap} {t : Arb} {servers : Int} {k : Nat} (h : arbOk m t servers = true) (hk : (k : Int) < m.cells) : -1 ≤ nth .int t.servers k ∧ nth .int t.servers k ≤ servers - 1 ∧ 0 ≤ nth .int t.ages k ∧ nth .int t.ages k ≤ 900 ∧ (nth .int t.servers k = -1 ↔ nth .int t.ages k = 0) := by
 refine arb_at h ?_
 unfold arbOk at h
 rw [Bool.and_eq_true] at h
 have h1 := h.1
 simp only [arbHead, decide_eq_true_eq] at h1
 omega
theorem arb_all {m : PMap} {t : Arb} {servers : Int} {k : Nat} (h : allTo k (arbAt t servers) = true) (hh : arbHead m t servers = true) (hk : k = t.servers.length) : arbOk m t servers = true := by
 subst hk
 simp [arbOk, h, hh]
def arbServer (t : Arb) (cell : Int) : Int := if 0 ≤ cell ∧ cell < (t.servers.length : Int) then nth .int t.servers cell.toNat else -1
def zeroGs (g : Gst) : Bool := decide (g.src = 0 ∧ g.count = 0 ∧ zeroW g.wlk = true)
def msgKind (m : PMap) (servers : Int) (x : Msg) : Bool := decide (
 (x.kind = 1 ∧ 0 ≤ x.dest ∧ x.dest ≤ servers - 1 ∧ x.side = 0 ∧ 1 ≤ x.n ∧ x.n ≤ 900 ∧ zeroO x.ord = true ∧ zeroP x.pcl = true ∧ zeroGs x.gst = true) ∨
 (x.kind = 2 ∧ 0 ≤ x.dest ∧ x.dest ≤ servers - 1 ∧ x.side = 0 ∧ x.n = 0 ∧ ordOk x.ord = true ∧ zeroP x.pcl = true ∧ zeroGs x.gst = true) ∨
 (x.kind = 3 ∧ x.dest = -1 ∧ x.side = 0 ∧ 1 ≤ x.n ∧ x.n ≤ 9 ∧ ordOk x.ord = true ∧ zeroP x.pcl = true ∧ zeroGs x.gst = true) ∨
 (x.kind = 4 ∧ x.dest = -1 ∧ x.side = 0 ∧ x.n = 0 ∧ ordOk x.ord = true ∧ zeroP x.pcl = true ∧ zeroGs x.gst = true) ∨
 (x.kind = 5 ∧ 0 ≤ x.dest ∧ x.dest ≤ servers - 1 ∧ plcSide m x.cell x.side ≠ -1 ∧ x.n = 0 ∧ zeroO x.ord = true ∧ pclOk m x.pcl = true ∧ zeroGs x.gst = true) ∨
 (x.kind = 6 ∧ 0 ≤ x.dest ∧ x.dest ≤ servers - 1 ∧ plcSide m x.cell x.side ≠ -1 ∧ 1 ≤ x.n ∧ x.n ≤ 5000 ∧ zeroO x.ord = true ∧ zeroP x.pcl = true ∧ zeroGs x.gst = true) ∨
 (x.kind = 7 ∧ 0 ≤ x.dest ∧ x.dest ≤ servers - 1 ∧ plcSide m x.cell x.side ≠ -1 ∧ x.n = 0 ∧ zeroO x.ord = true ∧ zeroP x.pcl = true ∧ gstOk m x.gst = true ∧ x.gst.src = plcSide m x.cell x.side))
def msgOk (m : PMap) (servers : Int) (x : Msg) : Bool := decide (plcOk m = true ∧ 1 ≤ servers ∧ servers ≤ 3 ∧ 0 ≤ x.cell ∧ x.cell < m.cells ∧ msgKind m servers x = true)
def rowOk (m : PMap) (r : Row) : Bool := decide (1 ≤ r.who ∧ r.who ≤ 9 ∧ 0 ≤ r.cell ∧ r.cell < m.cells ∧ 0 ≤ r.seq ∧ r.seq ≤ 900 ∧ 0 ≤ r.code ∧ r.code ≤ 9 ∧ (r.busy = false → zeroO r.ord = true) ∧ (r.busy = true → ordOk r.ord = true ∧ r.ord.who = r.who ∧ r.ord.seq = r.seq + 1))
def gwRowAt (m : PMap) (l : List Row) (i : Nat) : Bool := rowOk m (nth .row l i) && (decide (i = 0) || decide ((nth .row l (i - 1)).who < (nth .row l i).who))
def gwyOk (m : PMap) (l : List Row) : Bool := plcOk m && allTo l.length (gwRowAt m l)
theorem gwy_bad1 {m : PMap} {l : List Row} {k : Nat} (h : k < l.length) (hw : rowOk m (nth .row l k) = false) : gwyOk m l = false := by
 have := allTo_false (f := gwRowAt m l) h (by simp [gwRowAt, hw])
 simp [gwyOk, this]
theorem gwy_bad2 {m : PMap} {l : List Row} {k : Nat} (h : k < l.length) (h0 : 0 < k) (hw : ¬ (nth .row l (k - 1)).who < (nth .row l k).who) : gwyOk m l = false := by
 have := allTo_false (f := gwRowAt m l) h (by simp [gwRowAt, hw]; omega)
 simp [gwyOk, this]
theorem gwy_all {m : PMap} {l : List Row} {k : Nat} (h : allTo k (gwRowAt m l) = true) (hk : k = l.length) (hm : plcOk m = true) : gwyOk m l = true := by
 subst hk
 simp [gwyOk, h, hm]
def isWho (who : Int) (r : Row) : Bool := decide (r.who = who)
def rowPlace (l : List Row) (who : Int) : Int := idx (isWho who) l
def nwho (l : List Row) (who : Int) (j : Nat) : Bool := !isWho who (nth .row l j)
theorem row_at {l : List Row} {who : Int} {k : Nat} (h : allTo k (nwho l who) = true) (hk : k < l.length) (hi : (nth .row l k).who = who) : rowPlace l who = k := by
 rw [nth_lt .row l k hk] at hi
 refine idx_at hk (by simp [isWho, hi]) fun j hj => ?_
 have := (allTo_iff k _).1 h j hj
 simp only [nwho, Bool.not_eq_true'] at this
 rw [nth_lt .row l j (by omega)] at this
 exact this
theorem row_none {l : List Row} {who : Int} {k : Nat} (h : allTo k (nwho l who) = true) (hk : k = l.length) : rowPlace l who = -1 := by
 subst hk
 refine idx_none fun j hj => ?_
 have := (allTo_iff _ _).1 h j hj
 simp only [nwho, Bool.not_eq_true'] at this
 rw [nth_lt .row l j hj] at this
 exact this
theorem row_lt (l : List Row) (who : Int) : -1 ≤ rowPlace l who ∧ rowPlace l who < l.length := by
 rcases idx_cases (isWho who) l with ⟨h, _⟩ | ⟨k, hk, h, _⟩
 ·unfold rowPlace; rw [h]; omega
 ·unfold rowPlace; rw [h]; omega
theorem row_who {l : List Row} {who : Int} (h : 0 ≤ rowPlace l who) : (nth .row l (rowPlace l who).toNat).who = who := by
 rcases idx_cases (isWho who) l with ⟨h', _⟩ | ⟨k, hk, h', h2, _⟩
 ·unfold rowPlace at h; omega
 ·unfold rowPlace; rw [h']
  rw [Int.toNat_natCast, nth_lt .row l k hk]
  simpa [isWho] using h2
theorem gwy_at {m : PMap} {l : List Row} (h : gwyOk m l = true) {k : Nat} (hk : k < l.length) : rowOk m (nth .row l k) = true ∧ (0 < k → (nth .row l (k - 1)).who < (nth .row l k).who) := by
 unfold gwyOk at h
 rw [Bool.and_eq_true] at h
 have := (allTo_iff _ _).1 h.2 k hk
 simp only [gwRowAt, Bool.and_eq_true, Bool.or_eq_true, decide_eq_true_eq] at this
 exact ⟨this.1, fun h0 => this.2.resolve_left (by omega)⟩
theorem gwy_seq {m : PMap} {l : List Row} (h : gwyOk m l = true) {k : Nat} (hk : k < l.length) : 0 ≤ (nth .row l k).seq ∧ (nth .row l k).seq ≤ 900 := by
 have := (gwy_at h hk).1
 simp only [rowOk, decide_eq_true_eq] at this
 exact ⟨this.2.2.2.2.1, this.2.2.2.2.2.1⟩
def seqB (l : List Row) : Prop := ∀ k, k < l.length → 0 ≤ (nth .row l k).seq ∧ (nth .row l k).seq ≤ 900
theorem gwy_seqB {m : PMap} {l : List Row} (h : gwyOk m l = true) : seqB l := fun _ hk => gwy_seq h hk
theorem row_ext {a b : Row} : a = b ↔ a.who = b.who ∧ a.cell = b.cell ∧ a.busy = b.busy ∧ a.ord = b.ord ∧ a.seq = b.seq ∧ a.code = b.code := by
 cases a; cases b; simp
theorem gst_ext {a b : Gst} : a = b ↔ a.src = b.src ∧ a.count = b.count ∧ a.wlk = b.wlk := by
 cases a; cases b; simp
theorem msg_ext {a b : Msg} : a = b ↔ a.kind = b.kind ∧ a.dest = b.dest ∧ a.cell = b.cell ∧ a.side = b.side ∧ a.n = b.n ∧ a.ord = b.ord ∧ a.pcl = b.pcl ∧ a.gst = b.gst := by
 cases a; cases b; simp
structure BB where
 b : List Row
 ok : Bool
def askOrd (l : List Row) (who kind dest n : Int) : Ord := ⟨who, (nth .row l (rowPlace l who).toNat).seq + 1, kind, dest, n⟩
def gwyAsk (l : List Row) (who kind dest n : Int) : BB :=
 if 0 ≤ rowPlace l who ∧ (nth .row l (rowPlace l who).toNat).busy = false ∧ ordOk (askOrd l who kind dest n) = true then
  ⟨l.set (rowPlace l who).toNat ⟨(nth .row l (rowPlace l who).toNat).who, (nth .row l (rowPlace l who).toNat).cell, true, askOrd l who kind dest n, (nth .row l (rowPlace l who).toNat).seq, (nth .row l (rowPlace l who).toNat).code⟩, true⟩
 else ⟨l, false⟩
def gwyAskX (m : PMap) (l : List Row) (who kind dest n : Int) : BB := if gwyOk m l = true then gwyAsk l who kind dest n else ⟨[], false⟩
def hldAt (m : PMap) (l : List Hld) (i : Nat) : Bool := hldOk m (nth .hld l i) && (decide (i = 0) || decide ((nth .hld l (i - 1)).state.cell < (nth .hld l i).state.cell))
def srvUp (s : Srv) : Bool := s.up || decide (s.holds.length = 0 ∧ s.ghosts.length = 0)
def srvOk (m : PMap) (s : Srv) : Bool := gstsOk m s.ghosts && srvUp s && allTo s.holds.length (hldAt m s.holds)
theorem srv_bad1 {m : PMap} {s : Srv} {k : Nat} (h : k < s.holds.length) (hw : hldOk m (nth .hld s.holds k) = false) : srvOk m s = false := by
 have := allTo_false (f := hldAt m s.holds) h (by simp [hldAt, hw])
 simp [srvOk, this]
theorem srv_bad2 {m : PMap} {s : Srv} {k : Nat} (h : k < s.holds.length) (h0 : 0 < k) (hw : ¬ (nth .hld s.holds (k - 1)).state.cell < (nth .hld s.holds k).state.cell) : srvOk m s = false := by
 have := allTo_false (f := hldAt m s.holds) h (by simp [hldAt, hw]; omega)
 simp [srvOk, this]
theorem srv_all {m : PMap} {s : Srv} {k : Nat} (h : allTo k (hldAt m s.holds) = true) (hk : k = s.holds.length) : srvOk m s = (gstsOk m s.ghosts && srvUp s) := by
 subst hk
 simp [srvOk, h]
theorem srv_at {m : PMap} {s : Srv} (h : srvOk m s = true) {k : Nat} (hk : k < s.holds.length) : hldOk m (nth .hld s.holds k) = true := by
 unfold srvOk at h
 rw [Bool.and_eq_true] at h
 have := (allTo_iff _ _).1 h.2 k hk
 simp only [hldAt, Bool.and_eq_true] at this
 exact this.1
def isCell (cell : Int) (h : Hld) : Bool := decide (h.state.cell = cell)
def holdPlace (l : List Hld) (cell : Int) : Int := idx (isCell cell) l
def ncell (l : List Hld) (cell : Int) (j : Nat) : Bool := !isCell cell (nth .hld l j)
theorem hold_at {l : List Hld} {cell : Int} {k : Nat} (h : allTo k (ncell l cell) = true) (hk : k < l.length) (hi : (nth .hld l k).state.cell = cell) : holdPlace l cell = k := by
 rw [nth_lt .hld l k hk] at hi
 refine idx_at hk (by simp [isCell, hi]) fun j hj => ?_
 have := (allTo_iff k _).1 h j hj
 simp only [ncell, Bool.not_eq_true'] at this
 rw [nth_lt .hld l j (by omega)] at this
 exact this
theorem hold_none {l : List Hld} {cell : Int} {k : Nat} (h : allTo k (ncell l cell) = true) (hk : k = l.length) : holdPlace l cell = -1 := by
 subst hk
 refine idx_none fun j hj => ?_
 have := (allTo_iff _ _).1 h j hj
 simp only [ncell, Bool.not_eq_true'] at this
 rw [nth_lt .hld l j hj] at this
 exact this
theorem hold_lt (l : List Hld) (cell : Int) : -1 ≤ holdPlace l cell ∧ holdPlace l cell < l.length := by
 rcases idx_cases (isCell cell) l with ⟨h, _⟩ | ⟨k, hk, h, _⟩
 ·unfold holdPlace; rw [h]; omega
 ·unfold holdPlace; rw [h]; omega
theorem hold_cell {l : List Hld} {cell : Int} (h : 0 ≤ holdPlace l cell) : (nth .hld l (holdPlace l cell).toNat).state.cell = cell := by
 rcases idx_cases (isCell cell) l with ⟨h', _⟩ | ⟨k, hk, h', h2, _⟩
 ·unfold holdPlace at h; omega
 ·unfold holdPlace; rw [h']
  rw [Int.toNat_natCast, nth_lt .hld l k hk]
  simpa [isCell] using h2
def srvHold (s : Srv) (cell : Int) : Hld := if 0 ≤ holdPlace s.holds cell then nth .hld s.holds (holdPlace s.holds cell).toNat else zeroH
def srvHas (s : Srv) (cell : Int) : Bool := decide (0 ≤ holdPlace s.holds cell)
def stoAt (m : PMap) (l : List Sto) (i : Nat) : Bool := stoOk m (nth .sto l i) && decide ((nth .sto l i).base.cell = (i : Int))
def stosOk (m : PMap) (l : List Sto) : Bool := decide (plcOk m = true ∧ (l.length : Int) = m.cells) && allTo l.length (stoAt m l)
theorem stos_bad1 {m : PMap} {l : List Sto} {k : Nat} (h : k < l.length) (hw : stoOk m (nth .sto l k) = false) : stosOk m l = false := by
 have := allTo_false (f := stoAt m l) h (by simp [stoAt, hw])
 simp [stosOk, this]
theorem stos_bad2 {m : PMap} {l : List Sto} {k : Nat} (h : k < l.length) (hw : ¬ (nth .sto l k).base.cell = (k : Int)) : stosOk m l = false := by
 have := allTo_false (f := stoAt m l) h (by simp [stoAt, hw])
 simp [stosOk, this]
theorem stos_all {m : PMap} {l : List Sto} {k : Nat} (h : allTo k (stoAt m l) = true) (hk : k = l.length) : stosOk m l = decide (plcOk m = true ∧ (l.length : Int) = m.cells) := by
 subst hk
 simp [stosOk, h]
def ghTo (m : PMap) (h : Hld) (side : Int) (k : Nat) : List Gst := (flt (fun w => plcEdge m w.pos side) h.state.wlks k).map fun w => ⟨h.state.cell, h.count, w⟩
def ghosts (m : PMap) (h : Hld) (side : Int) : List Gst := ghTo m h side h.state.wlks.length
theorem ghTo_zero (m : PMap) (h : Hld) (side : Int) : ghTo m h side 0 = [] := by simp [ghTo, flt_zero]
theorem ghTo_len (m : PMap) (h : Hld) (side : Int) (k : Nat) : (ghTo m h side k).length ≤ k := by
 simp only [ghTo, List.length_map]
 exact flt_len _ _ _
theorem ghTo_yes {m : PMap} {h : Hld} {side : Int} {k : Nat} (hk : k < h.state.wlks.length) (hp : plcEdge m (nth .wlk h.state.wlks k).pos side = true) : ghTo m h side (k + 1) = ghTo m h side k ++ [⟨h.state.cell, h.count, nth .wlk h.state.wlks k⟩] := by
 unfold ghTo
 rw [flt_succ .wlk _ _ _ hk, if_pos hp]
 simp
theorem ghTo_no {m : PMap} {h : Hld} {side : Int} {k : Nat} (hk : k < h.state.wlks.length) (hp : plcEdge m (nth .wlk h.state.wlks k).pos side = false) : ghTo m h side (k + 1) = ghTo m h side k := by
 unfold ghTo
 rw [flt_succ .wlk _ _ _ hk, if_neg (by simp [hp])]
def gstPos (l : List Gst) (g : Gst) : Nat := (l.takeWhile fun x => gstLess x g).length
def gstRec (l : List Gst) (g : Gst) : List Gst :=
 if gstPos l g < l.length ∧ gstLess g (nth .gst l (gstPos l g)) = false then
  (if (nth .gst l (gstPos l g)).count < g.count then l.set (gstPos l g) g else l)
 else if l.length < 20 then insL l (gstPos l g) [g] else l
def hldPos (l : List Hld) (cell : Int) : Nat := (l.takeWhile fun h => decide (h.state.cell < cell)).length
def hldPut (l : List Hld) (h : Hld) : List Hld := if 0 ≤ holdPlace l h.state.cell then l.set (holdPlace l h.state.cell).toNat h else insL l (hldPos l h.state.cell) [h]
def hldDel (l : List Hld) (cell : Int) : List Hld := l.filter fun h => decide (h.state.cell ≠ cell)
structure SH where
 srv : Srv
 stores : List Sto
 out : List Msg
structure SW where
 srv : Srv
 stores : List Sto
 n : Int
 k : Int
def zeroMsg : Msg := ⟨0, 0, 0, 0, 0, ⟨0, 0, 0, 0, 0⟩, ⟨0, 0, ⟨0, 0, 0, 0, 0⟩, 0⟩, ⟨0, 0, ⟨0, 0, 0, 0, 0⟩⟩⟩
def zeroOrd : Ord := ⟨0, 0, 0, 0, 0⟩
def zeroPcl : Pcl := ⟨0, 0, ⟨0, 0, 0, 0, 0⟩, 0⟩
def zeroGst : Gst := ⟨0, 0, ⟨0, 0, 0, 0, 0⟩⟩
def srvWrite (m : PMap) (s : Srv) (stores : List Sto) (cell : Int) (r : Rec) : SW :=
 let w := hldWrite m (srvHold s cell) (nth .sto stores cell.toNat) r
 if w.n = 1 then ⟨⟨s.up, hldPut s.holds w.h, s.ghosts⟩, stores.set cell.toNat w.s, 1, w.k⟩
 else if w.n = 2 then ⟨⟨s.up, hldDel s.holds cell, s.ghosts⟩, stores, 2, 0⟩
 else ⟨s, stores, w.n, 0⟩
def srvGranted (m : PMap) (s : Srv) (stores : List Sto) (x : Msg) : SH :=
 if srvHas s x.cell = true ∧ x.n ≤ (srvHold s x.cell).age then ⟨s, stores, []⟩
 else if x.n < (nth .sto stores x.cell.toNat).age then ⟨s, stores, []⟩
 else ⟨⟨s.up, hldPut s.holds ⟨x.n, (nth .sto stores x.cell.toNat).recs.length, stoState m (nth .sto stores x.cell.toNat)⟩, s.ghosts⟩, stores.set x.cell.toNat ⟨x.n, (nth .sto stores x.cell.toNat).base, (nth .sto stores x.cell.toNat).recs⟩, []⟩
def msgTold (x : Msg) (n : Int) : Msg := ⟨3, -1, x.cell, 0, n, x.ord, zeroPcl, zeroGst⟩
def msgAway (x : Msg) : Msg := ⟨4, -1, x.cell, 0, 0, x.ord, zeroPcl, zeroGst⟩
def srvAsked (m : PMap) (s : Srv) (stores : List Sto) (x : Msg) : SH :=
 let c := (srvHold s x.cell).state
 let w := wlkFind c.wlks x.ord.who
 if wlkHas c.wlks x.ord.who = false then ⟨s, stores, [msgAway x]⟩
 else if x.ord.seq < w.seq then ⟨s, stores, []⟩
 else if x.ord.seq = w.seq then ⟨s, stores, if w.last = 0 then [] else [msgTold x w.last]⟩
 else
  let y := srvWrite m s stores x.cell ⟨1, x.ord, 0, zeroPcl, 0⟩
  ⟨y.srv, y.stores, if y.n = 1 then [msgTold x y.k] else []⟩
def msgGot (m : PMap) (t : Arb) (x : Msg) (n : Int) : List Msg :=
 if arbServer t (plcSide m x.cell x.side) = -1 then [] else [⟨6, arbServer t (plcSide m x.cell x.side), plcSide m x.cell x.side, 1 - x.side, n, zeroOrd, zeroPcl, zeroGst⟩]
def srvTaken (m : PMap) (s : Srv) (stores : List Sto) (t : Arb) (x : Msg) : SH :=
 let n := nth .int (srvHold s x.cell).state.ins x.side.toNat
 if x.pcl.n < n then ⟨s, stores, msgGot m t x n⟩
 else
  let y := srvWrite m s stores x.cell ⟨2, zeroOrd, x.side, x.pcl, 0⟩
  ⟨y.srv, y.stores, if y.n = 1 then msgGot m t x (n + 1) else []⟩
def srvHears (m : PMap) (s : Srv) (stores : List Sto) (t : Arb) (x : Msg) : SH :=
 if s.up = false ∨ x.dest = -1 then ⟨s, stores, []⟩
 else if x.kind = 1 then srvGranted m s stores x
 else if x.kind = 7 then ⟨⟨s.up, s.holds, gstRec s.ghosts x.gst⟩, stores, []⟩
 else if srvHas s x.cell = false then ⟨s, stores, []⟩
 else if x.kind = 2 then srvAsked m s stores x
 else if x.kind = 5 then srvTaken m s stores t x
 else
  let y := srvWrite m s stores x.cell ⟨3, zeroOrd, x.side, zeroPcl, x.n⟩
  ⟨y.srv, y.stores, []⟩
def srvHearX (m : PMap) (s : Srv) (stores : List Sto) (t : Arb) (servers : Int) (x : Msg) : SH :=
 if srvOk m s = true ∧ stosOk m stores = true ∧ arbOk m t servers = true ∧ msgOk m servers x = true then srvHears m s stores t x else ⟨⟨false, [], []⟩, [], []⟩
def tickSide (m : PMap) (t : Arb) (h : Hld) (cell : Int) (side : Int) : List Msg :=
 let there := plcSide m cell side
 let server := arbServer t there
 if there = -1 ∨ server = -1 then [] else
  (((nth .pcls h.state.outs side.toNat).take 4).map fun p => (⟨5, server, there, 1 - side, 0, zeroOrd, p, zeroGst⟩ : Msg)) ++ (((ghosts m h side).take 4).map fun g => (⟨7, server, there, 1 - side, 0, zeroOrd, zeroPcl, g⟩ : Msg))
def srvTick (m : PMap) (s : Srv) (t : Arb) (cell : Int) : List Msg :=
 if srvHas s cell = true then tickSide m t (srvHold s cell) cell 0 ++ tickSide m t (srvHold s cell) cell 1 else []
def rowAt (l : List Row) (who : Int) : Row := nth .row l (rowPlace l who).toNat
def gwyHear (m : PMap) (l : List Row) (x : Msg) : BB :=
 let r := rowAt l x.ord.who
 if 0 ≤ rowPlace l x.ord.who ∧ r.busy = true ∧ r.ord = x.ord then
  (if x.kind = 3 then ⟨l.set (rowPlace l x.ord.who).toNat ⟨r.who, x.cell, false, zeroOrd, x.ord.seq, x.n⟩, true⟩
  else if x.kind = 4 ∧ x.cell = r.cell then ⟨l.set (rowPlace l x.ord.who).toNat ⟨r.who, (r.cell + 1).tmod m.cells, r.busy, r.ord, r.seq, r.code⟩, false⟩
  else ⟨l, false⟩)
 else ⟨l, false⟩
def gwyHearX (m : PMap) (l : List Row) (servers : Int) (x : Msg) : BB := if gwyOk m l = true ∧ msgOk m servers x = true then gwyHear m l x else ⟨[], false⟩
structure MB where
 x : Msg
 ok : Bool
def gwySay (l : List Row) (t : Arb) (who : Int) : MB :=
 if 0 ≤ rowPlace l who ∧ (rowAt l who).busy = true ∧ arbServer t (rowAt l who).cell ≠ -1 then ⟨⟨2, arbServer t (rowAt l who).cell, (rowAt l who).cell, 0, 0, (rowAt l who).ord, zeroPcl, zeroGst⟩, true⟩ else ⟨zeroMsg, false⟩
def gwySayX (m : PMap) (l : List Row) (t : Arb) (servers : Int) (who : Int) : MB := if gwyOk m l = true ∧ arbOk m t servers = true then gwySay l t who else ⟨zeroMsg, false⟩
structure TB where
 t : Arb
 ok : Bool
def arbGrant (t : Arb) (servers cell server : Int) : TB :=
 if 0 ≤ cell ∧ cell < (t.servers.length : Int) ∧ 0 ≤ server ∧ server < servers ∧ nth .int t.ages cell.toNat ≠ 900 then ⟨⟨t.servers.set cell.toNat server, t.ages.set cell.toNat (nth .int t.ages cell.toNat + 1)⟩, true⟩ else ⟨t, false⟩
def arbGrantX (m : PMap) (t : Arb) (servers cell server : Int) : TB := if arbOk m t servers = true then arbGrant t servers cell server else ⟨⟨[], []⟩, false⟩
def aheadS (w : Wld) (i : Nat) : Bool := decide ((nth .sto w.stores i).age ≤ nth .int w.table.ages i)
def aheadH (t : Arb) (l : List Hld) (i : Nat) : Bool := decide ((nth .hld l i).age ≤ nth .int t.ages (nth .hld l i).state.cell.toNat)
def srvIn (w : Wld) (i : Nat) : Bool := srvOk w.map (nth .srv w.servers i) && allTo (nth .srv w.servers i).holds.length (aheadH w.table (nth .srv w.servers i).holds)
def msgIn (w : Wld) (i : Nat) : Bool := msgOk w.map w.servers.length (nth .msg w.net i) && decide ((nth .msg w.net i).kind = 1 → (nth .msg w.net i).n ≤ nth .int w.table.ages (nth .msg w.net i).cell.toNat)
def noteOk (n : Note) : Bool := decide (1 ≤ n.who ∧ n.who ≤ 9 ∧ 1 ≤ n.seq ∧ n.seq ≤ 900 ∧ 1 ≤ n.code ∧ n.code ≤ 9)
def noteIn (w : Wld) (i : Nat) : Bool := noteOk (nth .note w.notes i)
def wldOk (w : Wld) : Bool := arbOk w.map w.table w.servers.length && stosOk w.map w.stores && gwyOk w.map w.rows && decide (w.net.length ≤ 40 ∧ w.notes.length ≤ 150) &&
 allTo w.stores.length (aheadS w) && allTo w.servers.length (srvIn w) && allTo w.net.length (msgIn w) && allTo w.notes.length (noteIn w)
def wSend (w : Wld) (l : List Msg) : Wld := ⟨w.map, w.servers, w.stores, w.table, w.rows, w.net ++ l.take (40 - w.net.length), w.notes⟩
def wCut (w : Wld) (i : Nat) : Wld := ⟨w.map, w.servers, w.stores, w.table, w.rows, w.net.eraseIdx i, w.notes⟩
def wGate (w : Wld) (x : Msg) : Wld :=
 let y := gwyHear w.map w.rows x
 ⟨w.map, w.servers, w.stores, w.table, y.b, w.net, if y.ok = true ∧ w.notes.length < 150 then w.notes ++ [⟨x.ord.who, x.ord.seq, x.n⟩] else w.notes⟩
def wHear (w : Wld) (x : Msg) : Wld :=
 let y := srvHears w.map (nth .srv w.servers x.dest.toNat) w.stores w.table x
 wSend ⟨w.map, w.servers.set x.dest.toNat y.srv, y.stores, w.table, w.rows, w.net, w.notes⟩ y.out
def wBring (w : Wld) (i : Nat) : Wld :=
 let x := nth .msg w.net i
 if x.dest = -1 then wGate (wCut w i) x else wHear (wCut w i) x
def wStep (w : Wld) (e : Evt) : Wld :=
 if e.kind = 1 then
  (let y := arbGrant w.table w.servers.length e.pos e.dest
  if y.ok = true then wSend ⟨w.map, w.servers, w.stores, y.t, w.rows, w.net, w.notes⟩ [⟨1, e.dest, e.pos, 0, nth .int y.t.ages e.pos.toNat, zeroOrd, zeroPcl, zeroGst⟩] else w)
 else if e.kind = 2 then ⟨w.map, w.servers, w.stores, w.table, (gwyAsk w.rows e.pos e.what e.dest e.n).b, w.net, w.notes⟩
 else if e.kind = 3 then (if (gwySay w.rows w.table e.pos).ok = true then wSend w [(gwySay w.rows w.table e.pos).x] else w)
 else if 4 ≤ e.kind ∧ e.kind ≤ 6 then
  (if 0 ≤ e.pos ∧ e.pos < (w.net.length : Int) then (if e.kind = 4 then wBring w e.pos.toNat else if e.kind = 5 then wCut w e.pos.toNat else wSend w [nth .msg w.net e.pos.toNat]) else w)
 else if 7 ≤ e.kind ∧ e.kind ≤ 9 then
  (if 0 ≤ e.pos ∧ e.pos < (w.servers.length : Int) then (if e.kind = 7 then wSend w (srvTick w.map (nth .srv w.servers e.pos.toNat) w.table e.dest)
   else if e.kind = 8 then ⟨w.map, w.servers.set e.pos.toNat ⟨false, [], []⟩, w.stores, w.table, w.rows, w.net, w.notes⟩
   else if (nth .srv w.servers e.pos.toNat).up = false then ⟨w.map, w.servers.set e.pos.toNat ⟨true, [], []⟩, w.stores, w.table, w.rows, w.net, w.notes⟩ else w) else w)
 else w
def zeroWld : Wld := ⟨⟨0, 0⟩, [], [], ⟨[], []⟩, [], [], []⟩
def wldStep (w : Wld) (e : Evt) : Wld := if wldOk w = true then wStep w e else zeroWld
def lessAt (l : List Gst) (g : Gst) (i : Nat) : Bool := gstLess (nth .gst l i) g
theorem takeW_len {α : Type} (p : α → Bool) : ∀ (l : List α) (k : Nat), k ≤ l.length → (∀ i (h : i < l.length), i < k → p l[i] = true) → (∀ h : k < l.length, p l[k] = false) → (l.takeWhile p).length = k
 | [], k, hk, _, _ => by simp at hk; simp [hk]
 | x :: l, 0, _, _, h => by
   have := h (by simp)
   simp at this
   simp [List.takeWhile_cons, this]
 | x :: l, k + 1, hk, h1, h2 => by
   have hx := h1 0 (by simp) (by omega)
   simp at hx
   rw [List.takeWhile_cons, if_pos hx, List.length_cons, takeW_len p l k (by simpa using hk) (fun i hi hik => h1 (i + 1) (Nat.succ_lt_succ hi) (by omega)) (fun h => h2 (Nat.succ_lt_succ h))]
theorem gst_pos {l : List Gst} {g : Gst} {k : Nat} (hk : k ≤ l.length) (h : allTo k (lessAt l g) = true) (h2 : k < l.length → lessAt l g k = false) : gstPos l g = k := by
 refine takeW_len _ _ _ hk (fun i hi hik => ?_) (fun hl => ?_)
 ·have := (allTo_iff _ _).1 h i hik
  rwa [lessAt, nth_lt .gst l i hi] at this
 ·have := h2 hl
  rwa [lessAt, nth_lt .gst l k hl] at this
structure GB where
 l : List Gst
 d : Bool
def gpStep (l : List Gst) (g x : Gst) (o : GB) : GB :=
 if x.src = g.src ∧ x.wlk.id = g.wlk.id then ⟨o.l ++ [if x.count < g.count then g else x], true⟩
 else if o.d = false ∧ gstLess g x = true ∧ l.length < 20 then ⟨o.l ++ [g] ++ [x], true⟩
 else ⟨o.l ++ [x], o.d⟩
def gpTo (l : List Gst) (g : Gst) : Nat → GB
 | 0 => ⟨[], false⟩
 | k + 1 => gpStep l g (nth .gst l k) (gpTo l g k)
theorem gpTo_zero (l : List Gst) (g : Gst) : gpTo l g 0 = ⟨[], false⟩ := rfl
theorem gpTo_succ (l : List Gst) (g : Gst) (k : Nat) : gpTo l g (k + 1) = gpStep l g (nth .gst l k) (gpTo l g k) := rfl
theorem gpTo_len (l : List Gst) (g : Gst) (k : Nat) : (gpTo l g k).l.length ≤ k + (if (gpTo l g k).d = true then 1 else 0) := by
 induction k with
 | zero => simp [gpTo]
 | succ k ih =>
  rw [gpTo_succ]
  unfold gpStep
  split
  ·simp; split at ih <;> omega
  ·split
   ·rename_i h
    simp [h.1] at ih ⊢
    omega
   ·simp
    split at ih <;> simp_all <;> omega
def gpOut (l : List Gst) (g : Gst) : List Gst := if (gpTo l g l.length).d = false ∧ l.length < 20 then (gpTo l g l.length).l ++ [g] else (gpTo l g l.length).l
def gstPutS (m : PMap) (l : List Gst) (g : Gst) : List Gst := if gstsOkS m l = true ∧ gstOk m g = true then gpOut l g else []
theorem take_map_succ {t : RT} {β : Type} (f : t.ty → β) (l : List t.ty) {k : Nat} (h : k < l.length) : (l.take (k + 1)).map f = (l.take k).map f ++ [f (nth t l k)] := by
 rw [List.take_succ_eq_append_getElem h, List.map_append, nth_lt t l k h]
 rfl
theorem take_map_end {t : RT} {β : Type} (f : t.ty → β) (l : List t.ty) {k : Nat} (h : k ≤ l.length) (h4 : k ≤ 4) (he : ¬ (k < l.length ∧ k < 4)) : (l.take k).map f = (l.take 4).map f := by
 by_cases h5 : k = 4
 ·rw [h5]
 ·rw [List.take_of_length_le (by omega), List.take_of_length_le (by omega)]
def pclMsg (m : PMap) (t : Arb) (cell side : Int) (p : Pcl) : Msg := ⟨5, arbServer t (plcSide m cell side), plcSide m cell side, 1 - side, 0, zeroOrd, p, zeroGst⟩
def gstMsg (m : PMap) (t : Arb) (cell side : Int) (g : Gst) : Msg := ⟨7, arbServer t (plcSide m cell side), plcSide m cell side, 1 - side, 0, zeroOrd, zeroPcl, g⟩
def pclsTo (m : PMap) (t : Arb) (h : Hld) (side : Int) (k : Nat) : List Msg := ((nth .pcls h.state.outs side.toNat).take k).map (pclMsg m t h.state.cell side)
def gstsTo (m : PMap) (t : Arb) (h : Hld) (side : Int) (k : Nat) : List Msg := ((ghosts m h side).take k).map (gstMsg m t h.state.cell side)
theorem pclsTo_zero (m : PMap) (t : Arb) (h : Hld) (side : Int) : pclsTo m t h side 0 = [] := by simp [pclsTo]
theorem gstsTo_zero (m : PMap) (t : Arb) (h : Hld) (side : Int) : gstsTo m t h side 0 = [] := by simp [gstsTo]
theorem pclsTo_succ (m : PMap) (t : Arb) (h : Hld) (side : Int) {k : Nat} (hk : k < (nth .pcls h.state.outs side.toNat).length) : pclsTo m t h side (k + 1) = pclsTo m t h side k ++ [pclMsg m t h.state.cell side (nth .pcl (nth .pcls h.state.outs side.toNat) k)] := take_map_succ (t := .pcl) _ _ hk
theorem gstsTo_succ (m : PMap) (t : Arb) (h : Hld) (side : Int) {k : Nat} (hk : k < (ghosts m h side).length) : gstsTo m t h side (k + 1) = gstsTo m t h side k ++ [gstMsg m t h.state.cell side (nth .gst (ghosts m h side) k)] := take_map_succ (t := .gst) _ _ hk
theorem pclsTo_end (m : PMap) (t : Arb) (h : Hld) (side : Int) {k : Nat} (hk : k ≤ (nth .pcls h.state.outs side.toNat).length) (h4 : k ≤ 4) (he : ¬ (k < (nth .pcls h.state.outs side.toNat).length ∧ k < 4)) : pclsTo m t h side k = pclsTo m t h side 4 := take_map_end (t := .pcl) _ _ hk h4 he
theorem gstsTo_end (m : PMap) (t : Arb) (h : Hld) (side : Int) {k : Nat} (hk : k ≤ (ghosts m h side).length) (h4 : k ≤ 4) (he : ¬ (k < (ghosts m h side).length ∧ k < 4)) : gstsTo m t h side k = gstsTo m t h side 4 := take_map_end (t := .gst) _ _ hk h4 he
def towards (m : PMap) (t : Arb) (h : Hld) (side : Int) : List Msg :=
 if plcSide m h.state.cell side = -1 ∨ arbServer t (plcSide m h.state.cell side) = -1 then [] else pclsTo m t h side 4 ++ gstsTo m t h side 4
theorem pclsTo_len (m : PMap) (t : Arb) (h : Hld) (side : Int) (k : Nat) : (pclsTo m t h side k).length ≤ k := by simp [pclsTo]; omega
theorem gstsTo_len (m : PMap) (t : Arb) (h : Hld) (side : Int) (k : Nat) : (gstsTo m t h side k).length ≤ k := by simp [gstsTo]; omega
def notCell (cell : Int) (h : Hld) : Bool := decide (h.state.cell ≠ cell)
def hldDelTo (l : List Hld) (cell : Int) (k : Nat) : List Hld := flt (notCell cell) l k
theorem hldDelTo_zero (l : List Hld) (cell : Int) : hldDelTo l cell 0 = [] := flt_zero _ _
theorem hldDelTo_len (l : List Hld) (cell : Int) (k : Nat) : (hldDelTo l cell k).length ≤ k := flt_len _ _ _
theorem hldDelTo_yes {l : List Hld} {cell : Int} {k : Nat} (h : k < l.length) (hi : (nth .hld l k).state.cell ≠ cell) : hldDelTo l cell (k + 1) = hldDelTo l cell k ++ [nth .hld l k] := by
 unfold hldDelTo
 rw [flt_succ .hld _ _ _ h, if_pos (by simp [notCell, hi])]
theorem hldDelTo_no {l : List Hld} {cell : Int} {k : Nat} (h : k < l.length) (hi : (nth .hld l k).state.cell = cell) : hldDelTo l cell (k + 1) = hldDelTo l cell k := by
 unfold hldDelTo
 rw [flt_succ .hld _ _ _ h, if_neg (by simp [notCell, hi])]
theorem hldDelTo_all {l : List Hld} {cell : Int} {k : Nat} (h : k = l.length) : hldDelTo l cell k = hldDel l cell := by
 subst h
 unfold hldDelTo
 rw [flt_all]
 rfl
theorem hldDel_len (l : List Hld) (cell : Int) : (hldDel l cell).length ≤ l.length := by
 unfold hldDel
 exact List.length_filter_le _ _
structure HB where
 l : List Hld
 d : Bool
def hpStep (h x : Hld) (o : HB) : HB := if o.d = false ∧ h.state.cell < x.state.cell then ⟨o.l ++ [h] ++ [x], true⟩ else ⟨o.l ++ [x], o.d⟩
def hpTo (l : List Hld) (h : Hld) : Nat → HB
 | 0 => ⟨[], false⟩
 | k + 1 => hpStep h (nth .hld l k) (hpTo l h k)
theorem hpTo_zero (l : List Hld) (h : Hld) : hpTo l h 0 = ⟨[], false⟩ := rfl
theorem hpTo_succ (l : List Hld) (h : Hld) (k : Nat) : hpTo l h (k + 1) = hpStep h (nth .hld l k) (hpTo l h k) := rfl
theorem hpTo_len (l : List Hld) (h : Hld) (k : Nat) : (hpTo l h k).l.length ≤ k + (if (hpTo l h k).d = true then 1 else 0) := by
 induction k with
 | zero => simp [hpTo]
 | succ k ih =>
  rw [hpTo_succ]
  unfold hpStep
  split
  ·rename_i h
   simp [h.1] at ih ⊢
   omega
  ·simp
   split at ih <;> simp_all <;> omega
def hpOut (l : List Hld) (h : Hld) : List Hld := if (hpTo l h l.length).d = false then (hpTo l h l.length).l ++ [h] else (hpTo l h l.length).l
def hldPutS (l : List Hld) (h : Hld) : List Hld := hpOut (hldDel l h.state.cell) h
theorem srv_order {m : PMap} {s : Srv} (h : srvOk m s = true) : ∀ {i j : Nat}, i < j → j < s.holds.length → (nth .hld s.holds i).state.cell < (nth .hld s.holds j).state.cell := by
 have hs : ∀ k, k < s.holds.length → 0 < k → (nth .hld s.holds (k - 1)).state.cell < (nth .hld s.holds k).state.cell := fun k hk h0 => by
  unfold srvOk at h
  rw [Bool.and_eq_true] at h
  have := (allTo_iff _ _).1 h.2 k hk
  simp only [hldAt, Bool.and_eq_true, Bool.or_eq_true, decide_eq_true_eq] at this
  exact this.2.resolve_left (by omega)
 intro i j hij hj
 induction j with
 | zero => omega
 | succ j ih =>
  have h1 := hs (j + 1) hj (by omega)
  simp only [Nat.add_sub_cancel] at h1
  by_cases he : i = j
  ·subst he; exact h1
  ·have := ih (by omega) (by omega)
   omega
theorem srv_few {m : PMap} {s : Srv} (h : srvOk m s = true) : s.holds.length ≤ 4 := by
 by_cases h4 : s.holds.length ≤ 4
 ·exact h4
 ·exfalso
  have c := fun k (hk : k < s.holds.length) => (cllOk_facts (hldOk_iff.1 (srv_at h hk)).2.2)
  have o1 := srv_order h (i := 0) (j := 1) (by omega) (by omega)
  have o2 := srv_order h (i := 1) (j := 2) (by omega) (by omega)
  have o3 := srv_order h (i := 2) (j := 3) (by omega) (by omega)
  have o4 := srv_order h (i := 3) (j := 4) (by omega) (by omega)
  obtain ⟨_, hp, c0, _⟩ := c 0 (by omega)
  obtain ⟨_, _, _, c4, _⟩ := c 4 (by omega)
  obtain ⟨_, h4', _, _⟩ := plcOk_iff.1 hp
  omega
theorem idx_cons {α : Type} (p : α → Bool) (x : α) (l : List α) : idx p (x :: l) = if p x = true then 0 else if idx p l = -1 then -1 else idx p l + 1 := by
 unfold idx
 rw [List.findIdx?_cons]
 by_cases h : p x = true
 ·simp [h]
 ·simp [h]
  cases l.findIdx? p with
  | none => simp
  | some i =>
   have : ¬ ((i : Int) = -1) := by omega
   simp [this]
theorem idx_ge {α : Type} (p : α → Bool) (l : List α) : -1 ≤ idx p l := by
 unfold idx
 split <;> omega
def putH : List Hld → Hld → List Hld
 | [], h => [h]
 | x :: l, h => if h.state.cell < x.state.cell then h :: x :: l else if h.state.cell = x.state.cell then h :: l else x :: putH l h
def insH : List Hld → Hld → List Hld
 | [], h => [h]
 | x :: l, h => if h.state.cell < x.state.cell then h :: x :: l else x :: insH l h
abbrev HSort (l : List Hld) : Prop := l.Pairwise fun a b => a.state.cell < b.state.cell
theorem hsort_of {m : PMap} {s : Srv} (h : srvOk m s = true) : HSort s.holds := by
 refine List.pairwise_iff_getElem.2 ?_
 intro i j hi hj hij
 have := srv_order h hij hj
 rwa [nth_lt .hld _ _ hi, nth_lt .hld _ _ hj] at this
def hpFold (h : Hld) (o : HB) (l : List Hld) : HB := l.foldl (fun o x => hpStep h x o) o
theorem hpTo_fold (l : List Hld) (h : Hld) (k : Nat) (hk : k ≤ l.length) : hpTo l h k = hpFold h ⟨[], false⟩ (l.take k) := by
 induction k with
 | zero => rfl
 | succ k ih =>
  rw [hpTo_succ, ih (by omega), nth_lt .hld l k (by omega)]
  have e : l.take (k + 1) = l.take k ++ [l[k]] := List.take_succ_eq_append_getElem (by omega)
  rw [e]
  simp only [hpFold, List.foldl_append, List.foldl_cons, List.foldl_nil]
theorem hpFold_true (h : Hld) : ∀ (l acc : List Hld), hpFold h ⟨acc, true⟩ l = ⟨acc ++ l, true⟩
 | [], acc => by simp [hpFold]
 | x :: l, acc => by
  have := hpFold_true h l (acc ++ [x])
  simp only [hpFold, List.foldl_cons] at this ⊢
  rw [show hpStep h x ⟨acc, true⟩ = ⟨acc ++ [x], true⟩ by simp [hpStep], this]
  simp
def hpEnd (h : Hld) (o : HB) : List Hld := if o.d = false then o.l ++ [h] else o.l
theorem hpFold_end (h : Hld) : ∀ (l acc : List Hld), hpEnd h (hpFold h ⟨acc, false⟩ l) = acc ++ insH l h
 | [], acc => by simp [hpFold, hpEnd, insH]
 | x :: l, acc => by
  by_cases hx : h.state.cell < x.state.cell
  ·have := hpFold_true h l (acc ++ [h] ++ [x])
   simp only [hpFold, List.foldl_cons] at this ⊢
   rw [show hpStep h x ⟨acc, false⟩ = ⟨acc ++ [h] ++ [x], true⟩ by simp [hpStep, hx], this]
   simp [hpEnd, insH, hx]
  ·have := hpFold_end h l (acc ++ [x])
   simp only [hpFold, List.foldl_cons] at this ⊢
   rw [show hpStep h x ⟨acc, false⟩ = ⟨acc ++ [x], false⟩ by simp [hpStep, hx], this]
   simp [insH, hx]
theorem hpOut_eq (l : List Hld) (h : Hld) : hpOut l h = insH l h := by
 have h1 := hpTo_fold l h l.length (Nat.le_refl _)
 have h2 := hpFold_end h l []
 rw [List.take_length] at h1
 rw [← h1] at h2
 simpa [hpOut, hpEnd] using h2
theorem insH_above {l : List Hld} {h : Hld} (hl : ∀ x ∈ l, h.state.cell < x.state.cell) : insH l h = h :: l := by
 cases l with
 | nil => rfl
 | cons x l => simp [insH, hl x (by simp)]
theorem hldDel_other {l : List Hld} {c : Int} (hl : ∀ x ∈ l, x.state.cell ≠ c) : hldDel l c = l := by
 unfold hldDel
 rw [List.filter_eq_self]
 intro x hx
 simp [hl x hx]
theorem hldPutS_put : ∀ {l : List Hld} {h : Hld}, HSort l → hldPutS l h = putH l h := by
 intro l h hs
 unfold hldPutS
 rw [hpOut_eq]
 induction l with
 | nil => rfl
 | cons x l ih =>
  obtain ⟨hx, hl⟩ := List.pairwise_cons.1 hs
  by_cases h1 : h.state.cell < x.state.cell
  ·rw [hldDel_other (fun y hy => ?_)]
   ·simp [putH, insH, h1]
   ·rcases List.mem_cons.1 hy with rfl | hy
    ·omega
    ·have := hx y hy; omega
  ·by_cases h2 : h.state.cell = x.state.cell
   ·have : hldDel (x :: l) h.state.cell = l := by
     rw [show hldDel (x :: l) h.state.cell = hldDel l h.state.cell by simp [hldDel, h2]]
     exact hldDel_other fun y hy => by have := hx y hy; omega
    rw [this, insH_above (fun y hy => by have := hx y hy; omega)]
    simp [putH, h2]
   ·rw [show hldDel (x :: l) h.state.cell = x :: hldDel l h.state.cell by
     have : ¬ x.state.cell = h.state.cell := fun hh => h2 hh.symm
     simp [hldDel, this]]
    simp [putH, insH, h1, h2, ih hl]
theorem hldPut_put : ∀ {l : List Hld} {h : Hld}, HSort l → hldPut l h = putH l h := by
 intro l h hs
 induction l with
 | nil => simp [hldPut, holdPlace, idx, insL, hldPos, putH]
 | cons x l ih =>
  obtain ⟨hx, hl⟩ := List.pairwise_cons.1 hs
  have hi := idx_cons (isCell h.state.cell) x l
  have hge := idx_ge (isCell h.state.cell) l
  by_cases h1 : h.state.cell < x.state.cell
  ·have hno : holdPlace (x :: l) h.state.cell = -1 := by
    rcases idx_cases (isCell h.state.cell) (x :: l) with ⟨e, _⟩ | ⟨k, hk, e, h2, _⟩
    ·exact e
    ·exfalso
     simp only [isCell, decide_eq_true_eq] at h2
     have hm := List.getElem_mem hk
     rcases List.mem_cons.1 hm with he | he
     ·rw [he] at h2; omega
     ·have := hx _ he; omega
   rw [hldPut, hno, if_neg (by omega)]
   have : hldPos (x :: l) h.state.cell = 0 := by
    simp [hldPos, List.takeWhile_cons, show ¬ x.state.cell < h.state.cell by omega]
   simp [this, insL, putH, h1]
  ·by_cases h2 : h.state.cell = x.state.cell
   ·have he : holdPlace (x :: l) h.state.cell = 0 := by
     unfold holdPlace
     rw [hi, if_pos (by simp [isCell, h2])]
    rw [hldPut, he]
    simp [putH, h2]
   ·have ih := ih hl
    have he : holdPlace (x :: l) h.state.cell = if holdPlace l h.state.cell = -1 then -1 else holdPlace l h.state.cell + 1 := by
     unfold holdPlace
     rw [hi, if_neg (by simp [isCell]; omega)]
    have hp : hldPos (x :: l) h.state.cell = hldPos l h.state.cell + 1 := by
     simp [hldPos, List.takeWhile_cons, show x.state.cell < h.state.cell by omega]
    unfold hldPut at ih ⊢
    have hge' : -1 ≤ holdPlace l h.state.cell := hge
    generalize holdPlace (x :: l) h.state.cell = P at *
    generalize holdPlace l h.state.cell = R at *
    by_cases h0 : 0 ≤ R
    ·rw [if_pos h0] at ih
     rw [if_neg (by omega)] at he
     subst he
     rw [if_pos (by omega), show (R + 1).toNat = R.toNat + 1 by omega, List.set_cons_succ, ih]
     simp [putH, h1, h2]
    ·rw [if_neg h0] at ih
     rw [if_pos (by omega)] at he
     subst he
     rw [if_neg (by omega), hp]
     simp only [insL, List.take_succ_cons, List.drop_succ_cons, List.cons_append] at ih ⊢
     rw [ih]
     simp [putH, h1, h2]
theorem hldPutS_eq {l : List Hld} {h : Hld} (hs : HSort l) : hldPutS l h = hldPut l h := by rw [hldPutS_put hs, hldPut_put hs]
abbrev GSort (l : List Gst) : Prop := l.Pairwise fun a b => gstLess a b = true
theorem gstLess_iff {a b : Gst} : gstLess a b = true ↔ a.src < b.src ∨ a.src = b.src ∧ a.wlk.id < b.wlk.id := by simp [gstLess]
theorem gsort_of {m : PMap} {l : List Gst} (h : gstsOkS m l = true) : GSort l := by
 have hs : ∀ k, k < l.length → 0 < k → gstLess (nth .gst l (k - 1)) (nth .gst l k) = true := fun k hk h0 => by
  unfold gstsOkS at h
  rw [Bool.and_eq_true] at h
  have := (allTo_iff _ _).1 h.2 k hk
  simp only [gstAt, Bool.and_eq_true, Bool.or_eq_true, decide_eq_true_eq] at this
  exact this.2.resolve_left (by omega)
 have hall : ∀ j, j < l.length → ∀ i, i < j → gstLess (nth .gst l i) (nth .gst l j) = true := by
  intro j
  induction j with
  | zero => intro _ i hi; omega
  | succ j ih =>
   intro hj i hi
   have h1 := hs (j + 1) hj (by omega)
   simp only [Nat.add_sub_cancel] at h1
   by_cases he : i = j
   ·subst he; exact h1
   ·have h2 := ih (by omega) i (by omega)
    rw [gstLess_iff] at h1 h2 ⊢
    omega
 refine List.pairwise_iff_getElem.2 ?_
 intro i j hi hj hij
 have := hall j hj i hij
 rwa [nth_lt .gst _ _ hi, nth_lt .gst _ _ hj] at this
def later (x g : Gst) : Gst := if x.count < g.count then g else x
def putG (room : Bool) : List Gst → Gst → List Gst
 | [], g => if room = true then [g] else []
 | x :: l, g => if gstLess g x = true then (if room = true then g :: x :: l else x :: l) else if x.src = g.src ∧ x.wlk.id = g.wlk.id then later x g :: l else x :: putG room l g
def gpFold (L : List Gst) (g : Gst) (o : GB) (l : List Gst) : GB := l.foldl (fun o x => gpStep L g x o) o
theorem gpTo_fold (l : List Gst) (g : Gst) (k : Nat) (hk : k ≤ l.length) : gpTo l g k = gpFold l g ⟨[], false⟩ (l.take k) := by
 induction k with
 | zero => rfl
 | succ k ih =>
  rw [gpTo_succ, ih (by omega), nth_lt .gst l k (by omega)]
  have e : l.take (k + 1) = l.take k ++ [l[k]] := List.take_succ_eq_append_getElem (by omega)
  rw [e]
  simp only [gpFold, List.foldl_append, List.foldl_cons, List.foldl_nil]
theorem gpFold_true (L : List Gst) (g : Gst) : ∀ (l acc : List Gst), (∀ x ∈ l, ¬ (x.src = g.src ∧ x.wlk.id = g.wlk.id)) → gpFold L g ⟨acc, true⟩ l = ⟨acc ++ l, true⟩
 | [], acc, _ => by simp [gpFold]
 | x :: l, acc, hl => by
  have := gpFold_true L g l (acc ++ [x]) fun y hy => hl y (List.mem_cons_of_mem _ hy)
  simp only [gpFold, List.foldl_cons] at this ⊢
  rw [show gpStep L g x ⟨acc, true⟩ = ⟨acc ++ [x], true⟩ by simp [gpStep, hl x (by simp)], this]
  simp
theorem gpFold_full (L : List Gst) (g : Gst) (hL : ¬ L.length < 20) : ∀ (l acc : List Gst), (∀ x ∈ l, ¬ (x.src = g.src ∧ x.wlk.id = g.wlk.id)) → (gpFold L g ⟨acc, false⟩ l).l = acc ++ l
 | [], acc, _ => by simp [gpFold]
 | x :: l, acc, hl => by
  have := gpFold_full L g hL l (acc ++ [x]) fun y hy => hl y (List.mem_cons_of_mem _ hy)
  simp only [gpFold, List.foldl_cons] at this ⊢
  rw [show gpStep L g x ⟨acc, false⟩ = ⟨acc ++ [x], false⟩ by simp [gpStep, hl x (by simp), hL], this]
  simp
def gpEnd (L : List Gst) (g : Gst) (o : GB) : List Gst := if o.d = false ∧ L.length < 20 then o.l ++ [g] else o.l
theorem gpFold_end (L : List Gst) (g : Gst) : ∀ (l acc : List Gst), GSort l → gpEnd L g (gpFold L g ⟨acc, false⟩ l) = acc ++ putG (decide (L.length < 20)) l g
 | [], acc, _ => by by_cases h : L.length < 20 <;> simp [gpFold, gpEnd, putG, h]
 | x :: l, acc, hs => by
  obtain ⟨hx, hl⟩ := List.pairwise_cons.1 hs
  by_cases h1 : gstLess g x = true
  ·have hne : ∀ y ∈ l, ¬ (y.src = g.src ∧ y.wlk.id = g.wlk.id) := fun y hy => by
    have := hx y hy
    rw [gstLess_iff] at this h1
    omega
   have hnx : ¬ (x.src = g.src ∧ x.wlk.id = g.wlk.id) := by rw [gstLess_iff] at h1; omega
   by_cases hL : L.length < 20
   ·have := gpFold_true L g l (acc ++ [g] ++ [x]) hne
    simp only [gpFold, List.foldl_cons] at this ⊢
    rw [show gpStep L g x ⟨acc, false⟩ = ⟨acc ++ [g] ++ [x], true⟩ by simp [gpStep, hnx, h1, hL], this]
    simp [gpEnd, putG, h1, hL]
   ·have := gpFold_full L g hL l (acc ++ [x]) hne
    simp only [gpFold, List.foldl_cons] at this ⊢
    rw [show gpStep L g x ⟨acc, false⟩ = ⟨acc ++ [x], false⟩ by simp [gpStep, hnx, hL]]
    simp [gpEnd, putG, h1, hL, this]
  ·by_cases h2 : x.src = g.src ∧ x.wlk.id = g.wlk.id
   ·have hne : ∀ y ∈ l, ¬ (y.src = g.src ∧ y.wlk.id = g.wlk.id) := fun y hy => by
     have := hx y hy
     rw [gstLess_iff] at this
     omega
    have := gpFold_true L g l (acc ++ [later x g]) hne
    simp only [gpFold, List.foldl_cons] at this ⊢
    rw [show gpStep L g x ⟨acc, false⟩ = ⟨acc ++ [later x g], true⟩ by simp [gpStep, h2, later], this]
    simp [gpEnd, putG, h1, h2]
   ·have := gpFold_end L g l (acc ++ [x]) hl
    simp only [gpFold, List.foldl_cons] at this ⊢
    rw [show gpStep L g x ⟨acc, false⟩ = ⟨acc ++ [x], false⟩ by simp [gpStep, h1, h2], this]
    simp [putG, h1, h2]
theorem gpOut_put {l : List Gst} {g : Gst} (hs : GSort l) : gpOut l g = putG (decide (l.length < 20)) l g := by
 have h1 := gpTo_fold l g l.length (Nat.le_refl _)
 have h2 := gpFold_end l g l [] hs
 rw [List.take_length] at h1
 rw [← h1] at h2
 simpa [gpOut, gpEnd] using h2
theorem gstPos_cons (x : Gst) (l : List Gst) (g : Gst) : gstPos (x :: l) g = if gstLess x g = true then gstPos l g + 1 else 0 := by
 unfold gstPos
 rw [List.takeWhile_cons]
 split <;> simp
theorem gstRec_go (room : Bool) : ∀ (l : List Gst) (g : Gst), GSort l → (if gstPos l g < l.length ∧ gstLess g (nth .gst l (gstPos l g)) = false then
  (if (nth .gst l (gstPos l g)).count < g.count then l.set (gstPos l g) g else l)
 else if room = true then insL l (gstPos l g) [g] else l) = putG room l g
 | [], g, _ => by simp [gstPos, insL, putG]
 | x :: l, g, hs => by
  obtain ⟨hx, hl⟩ := List.pairwise_cons.1 hs
  have ih := gstRec_go room l g hl
  rw [gstPos_cons]
  by_cases h1 : gstLess x g = true
  ·have hn : gstLess g x = false := by
    cases hh : gstLess g x with
    | false => rfl
    | true => rw [gstLess_iff] at h1 hh; omega
   have hne : ¬ (x.src = g.src ∧ x.wlk.id = g.wlk.id) := by rw [gstLess_iff] at h1; omega
   rw [if_pos h1]
   have hnth : nth .gst (x :: l) (gstPos l g + 1) = nth .gst l (gstPos l g) := by simp [nth]
   rw [hnth]
   simp only [List.length_cons, Nat.add_lt_add_iff_right, List.set_cons_succ, insL, List.take_succ_cons, List.drop_succ_cons, List.cons_append]
   simp only [putG, hn, hne, if_false, Bool.false_eq_true]
   rw [← ih]
   simp only [insL]
   split
   ·split <;> rfl
   ·split <;> rfl
  ·rw [if_neg h1]
   have hnth : nth .gst (x :: l) 0 = x := by simp [nth]
   rw [hnth]
   by_cases h2 : gstLess g x = true
   ·rw [if_neg (by simp [h2])]
    simp [putG, h2, insL]
   ·have he : x.src = g.src ∧ x.wlk.id = g.wlk.id := by rw [gstLess_iff] at h1 h2; omega
    rw [if_pos ⟨by simp, by simpa using h2⟩]
    simp only [putG, h2, he, later, List.set_cons_zero]
    by_cases h3 : x.count < g.count <;> simp [h3]
theorem gstRec_put {l : List Gst} {g : Gst} (hs : GSort l) : gstRec l g = putG (decide (l.length < 20)) l g := by
 have := gstRec_go (decide (l.length < 20)) l g hs
 rw [← this]
 simp [gstRec]
theorem gstPutS_eq {m : PMap} {l : List Gst} {g : Gst} (hl : gstsOkS m l = true) (hg : gstOk m g = true) : gstPutS m l g = gstRec l g := by
 rw [gstPutS, if_pos ⟨hl, hg⟩, gpOut_put (gsort_of hl), gstRec_put (gsort_of hl)]
def cellLess (l : List Hld) (cell : Int) (i : Nat) : Bool := decide ((nth .hld l i).state.cell < cell)
theorem hld_pos {l : List Hld} {cell : Int} {k : Nat} (hk : k ≤ l.length) (h : allTo k (cellLess l cell) = true) (h2 : k < l.length → ¬ (nth .hld l k).state.cell < cell) : hldPos l cell = k := by
 refine takeW_len _ _ _ hk (fun i hi hik => ?_) (fun hl => ?_)
 ·have := (allTo_iff _ _).1 h i hik
  rwa [cellLess, nth_lt .hld l i hi] at this
 ·have := h2 hl
  rw [nth_lt .hld l k hl] at this
  simpa using this
end Go.Mo
