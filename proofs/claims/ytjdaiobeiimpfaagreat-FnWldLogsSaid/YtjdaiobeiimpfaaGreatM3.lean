/-
  Plain models: is a world ok.
-/
import Derived.Test.YtjdaiobeiimpfaaGreatM2
import Derived.Test.YtjdaiobeiimpfaaGreatS4e
import Derived.Test.YtjdaiobeiimpfaaGreatM1
set_option linter.unusedVariables false
set_option linter.unusedSimpArgs false
namespace Go.Sx
end Go.Sx
namespace Go.Mo
open Go.Sx
def msgsIn (w : Wld) : Bool := decide (w.net.length ≤ 40) && allTo w.net.length (msgIn w)
def noteAt (l : List Note) (i : Nat) : Bool := noteOk (nth .note l i)
def notesIn (l : List Note) : Bool := decide (l.length ≤ 150) && allTo l.length (noteAt l)
def srvsIn (w : Wld) : Bool := allTo w.servers.length (srvIn w)
theorem allTo_all {f : Nat → Bool} {k n : Nat} (h : allTo k f = true) (hk : k = n) : allTo n f = true := by subst hk; exact h
theorem srvs_bad1 {w : Wld} {k : Nat} (h : k < w.servers.length) (hw : srvOk w.map (nth .srv w.servers k) = false) : allTo w.servers.length (srvIn w) = false :=
 allTo_false h (by simp [srvIn, hw])
theorem srvs_bad2 {w : Wld} {k j : Nat} (h : k < w.servers.length) (hj : j < (nth .srv w.servers k).holds.length) (hw : aheadH w.table (nth .srv w.servers k).holds j = false) : allTo w.servers.length (srvIn w) = false :=
 allTo_false h (by rw [srvIn, allTo_false hj hw, Bool.and_false])
theorem srvIn_of {w : Wld} {k j : Nat} (h1 : srvOk w.map (nth .srv w.servers k) = true) (h2 : allTo j (aheadH w.table (nth .srv w.servers k).holds) = true) (hj : j = (nth .srv w.servers k).holds.length) : srvIn w k = true := by
 subst hj
 simp [srvIn, h1, h2]
theorem stos_bad {w : Wld} {k : Nat} (h : k < w.stores.length) (hw : aheadS w k = false) : allTo w.stores.length (aheadS w) = false := allTo_false h hw
theorem net_bad {w : Wld} {k : Nat} (h : k < w.net.length) (hw : msgIn w k = false) : allTo w.net.length (msgIn w) = false := allTo_false h hw
theorem notes_bad {l : List Note} {k : Nat} (h : k < l.length) (hw : noteAt l k = false) : allTo l.length (noteAt l) = false := allTo_false h hw
theorem noteIn_eq (w : Wld) : allTo w.notes.length (noteIn w) = allTo w.notes.length (noteAt w.notes) := rfl
theorem hold_in {m : PMap} {s : Srv} {k : Nat} (h : srvOk m s = true) (hk : k < s.holds.length) : 0 ≤ (nth .hld s.holds k).state.cell ∧ (nth .hld s.holds k).state.cell < m.cells := by
 have := cllOk_facts (hldOk_iff.1 (srv_at h hk)).2.2
 exact ⟨this.2.2.1, this.2.2.2.1⟩
theorem msg_in {m : PMap} {v : Int} {x : Msg} (h : msgOk m v x = true) : 0 ≤ x.cell ∧ x.cell < m.cells := by
 simp only [msgOk, decide_eq_true_eq] at h
 exact ⟨h.2.2.2.1, h.2.2.2.2.1⟩
theorem arb_len {m : PMap} {t : Arb} {v : Int} (h : arbOk m t v = true) : (t.servers.length : Int) = m.cells ∧ (t.ages.length : Int) = m.cells ∧ plcOk m = true ∧ 1 ≤ v ∧ v ≤ 3 := by
 unfold arbOk at h
 rw [Bool.and_eq_true] at h
 have h1 := h.1
 simp only [arbHead, decide_eq_true_eq] at h1
 exact ⟨h1.2.2.2.1, h1.2.2.2.2, h1.1, h1.2.1, h1.2.2.1⟩
theorem stos_len {m : PMap} {l : List Sto} (h : stosOk m l = true) : (l.length : Int) = m.cells ∧ plcOk m = true := by
 unfold stosOk at h
 rw [Bool.and_eq_true] at h
 have h1 := h.1
 simp only [decide_eq_true_eq] at h1
 exact ⟨h1.2, h1.1⟩
theorem stos_few {m : PMap} {l : List Sto} (h : stosOk m l = true) : l.length ≤ 4 := by
 obtain ⟨h1, h2⟩ := stos_len h
 obtain ⟨_, h3, _⟩ := plcOk_iff.1 h2
 omega
def wldOkAll (w : Wld) : Bool := arbOk w.map w.table w.servers.length && stosOk w.map w.stores && gwyOk w.map w.rows && allTo w.stores.length (aheadS w) && srvsIn w && msgsIn w && notesIn w.notes
theorem wldOk_all (w : Wld) : wldOk w = wldOkAll w := by
 simp only [wldOk, wldOkAll, srvsIn, msgsIn, notesIn, noteIn_eq]
 by_cases h1 : w.net.length ≤ 40 <;> by_cases h2 : w.notes.length ≤ 150 <;> simp [h1, h2]
theorem nth_of_mem (t : RT) {l : List t.ty} {x : t.ty} (h : x ∈ l) : ∃ i, i < l.length ∧ nth t l i = x := by
 obtain ⟨i, hi, he⟩ := List.getElem_of_mem h
 exact ⟨i, hi, by rw [nth_lt t l i hi]; exact he⟩
theorem gstsOkS_iff {m : PMap} {l : List Gst} : gstsOkS m l = true ↔ l.length ≤ 20 ∧ (∀ g ∈ l, gstOk m g = true) ∧ GSort l := by
 constructor
 ·intro h
  refine ⟨?_, fun g hg => ?_, gsort_of h⟩
  ·simp only [gstsOkS, Bool.and_eq_true, decide_eq_true_eq] at h; exact h.1
  ·obtain ⟨i, hi, rfl⟩ := nth_of_mem .gst hg
   simp only [gstsOkS, Bool.and_eq_true] at h
   have := (allTo_iff _ _).1 h.2 i hi
   simp only [gstAt, Bool.and_eq_true] at this
   exact this.1
 ·rintro ⟨h1, h2, h3⟩
  simp only [gstsOkS, Bool.and_eq_true, decide_eq_true_eq]
  refine ⟨h1, (allTo_iff _ _).2 fun i hi => ?_⟩
  simp only [gstAt, Bool.and_eq_true, Bool.or_eq_true, decide_eq_true_eq]
  refine ⟨h2 _ (nth_mem .gst hi), ?_⟩
  by_cases h0 : i = 0
  ·exact .inl h0
  ·right
   have := List.pairwise_iff_getElem.1 h3 (i - 1) i (by omega) hi (by omega)
   rwa [nth_lt .gst _ _ hi, nth_lt .gst _ _ (by omega)]
theorem gstsOk_iff {m : PMap} {l : List Gst} : gstsOk m l = true ↔ plcOk m = true ∧ l.length ≤ 20 ∧ (∀ g ∈ l, gstOk m g = true) ∧ GSort l := by
 rw [gstsOk, Bool.and_eq_true, gstsOkS_iff]
theorem srvOk_iff {m : PMap} {s : Srv} : srvOk m s = true ↔ gstsOk m s.ghosts = true ∧ srvUp s = true ∧ (∀ h ∈ s.holds, hldOk m h = true) ∧ HSort s.holds := by
 constructor
 ·intro h
  refine ⟨?_, ?_, fun g hg => ?_, hsort_of h⟩
  ·simp only [srvOk, Bool.and_eq_true] at h; exact h.1.1
  ·simp only [srvOk, Bool.and_eq_true] at h; exact h.1.2
  ·obtain ⟨i, hi, rfl⟩ := nth_of_mem .hld hg
   exact srv_at h hi
 ·rintro ⟨h1, h2, h3, h4⟩
  simp only [srvOk, Bool.and_eq_true]
  refine ⟨⟨h1, h2⟩, (allTo_iff _ _).2 fun i hi => ?_⟩
  simp only [hldAt, Bool.and_eq_true, Bool.or_eq_true, decide_eq_true_eq]
  refine ⟨h3 _ (nth_mem .hld hi), ?_⟩
  by_cases h0 : i = 0
  ·exact .inl h0
  ·right
   have := List.pairwise_iff_getElem.1 h4 (i - 1) i (by omega) hi (by omega)
   rwa [nth_lt .hld _ _ hi, nth_lt .hld _ _ (by omega)]
theorem stosOk_iff {m : PMap} {l : List Sto} : stosOk m l = true ↔ plcOk m = true ∧ (l.length : Int) = m.cells ∧ ∀ i, i < l.length → stoOk m (nth .sto l i) = true ∧ (nth .sto l i).base.cell = (i : Int) := by
 simp only [stosOk, Bool.and_eq_true, decide_eq_true_eq, and_assoc]
 refine and_congr_right fun _ => and_congr_right fun _ => ?_
 rw [allTo_iff]
 simp only [stoAt, Bool.and_eq_true, decide_eq_true_eq]
theorem srvUp_iff {s : Srv} : srvUp s = true ↔ (s.up = true ∨ s.holds = [] ∧ s.ghosts = []) := by
 simp [srvUp]
theorem putH_mem : ∀ {l : List Hld} {h x : Hld}, HSort l → x ∈ putH l h → x = h ∨ x ∈ l ∧ x.state.cell ≠ h.state.cell
 | [], h, x, _, hx => by simp [putH] at hx; exact .inl hx
 | y :: l, h, x, hs, hx => by
  obtain ⟨hy, hl⟩ := List.pairwise_cons.1 hs
  simp only [putH] at hx
  split at hx
  ·rename_i h1
   rcases List.mem_cons.1 hx with rfl | hx
   ·exact .inl rfl
   ·right
    refine ⟨hx, ?_⟩
    rcases List.mem_cons.1 hx with rfl | hx
    ·omega
    ·have := hy x hx; omega
  ·split at hx
   ·rename_i h1 h2
    rcases List.mem_cons.1 hx with rfl | hx
    ·exact .inl rfl
    ·have := hy x hx
     exact .inr ⟨List.mem_cons_of_mem _ hx, by omega⟩
   ·rename_i h1 h2
    rcases List.mem_cons.1 hx with rfl | hx
    ·exact .inr ⟨List.mem_cons_self, by omega⟩
    ·rcases putH_mem hl hx with rfl | ⟨h3, h4⟩
     ·exact .inl rfl
     ·exact .inr ⟨List.mem_cons_of_mem _ h3, h4⟩
theorem putH_sort : ∀ {l : List Hld} {h : Hld}, HSort l → HSort (putH l h)
 | [], h, _ => by simp [putH]
 | y :: l, h, hs => by
  obtain ⟨hy, hl⟩ := List.pairwise_cons.1 hs
  simp only [putH]
  split
  ·rename_i h1
   refine List.pairwise_cons.2 ⟨fun x hx => ?_, hs⟩
   rcases List.mem_cons.1 hx with rfl | hx
   ·exact h1
   ·have := hy x hx; omega
  ·split
   ·rename_i h1 h2
    refine List.pairwise_cons.2 ⟨fun x hx => ?_, hl⟩
    have := hy x hx; omega
   ·rename_i h1 h2
    refine List.pairwise_cons.2 ⟨fun x hx => ?_, putH_sort hl⟩
    rcases putH_mem hl hx with rfl | ⟨h3, _⟩
    ·omega
    ·exact hy x h3
theorem del_mem {l : List Hld} {c : Int} {x : Hld} : x ∈ hldDel l c ↔ x ∈ l ∧ x.state.cell ≠ c := by simp [hldDel]
theorem del_sort {l : List Hld} {c : Int} (h : HSort l) : HSort (hldDel l c) := List.Pairwise.filter _ h
theorem srvHold_mem {s : Srv} {c : Int} (h : srvHas s c = true) : srvHold s c ∈ s.holds ∧ (srvHold s c).state.cell = c := by
 simp only [srvHas, decide_eq_true_eq] at h
 have hlt := hold_lt s.holds c
 rw [srvHold, if_pos h]
 exact ⟨nth_mem .hld (by omega), hold_cell h⟩
theorem putG_mem {room : Bool} : ∀ {l : List Gst} {g x : Gst}, x ∈ putG room l g → x = g ∨ x ∈ l
 | [], g, x, h => by
  simp only [putG] at h
  split at h
  ·exact .inl (by simpa using h)
  ·simp at h
 | y :: l, g, x, h => by
  simp only [putG] at h
  split at h
  ·split at h
   ·rcases List.mem_cons.1 h with rfl | h
    ·exact .inl rfl
    ·exact .inr h
   ·exact .inr h
  ·split at h
   ·rcases List.mem_cons.1 h with rfl | h
    ·unfold later
     split
     ·exact .inl rfl
     ·exact .inr List.mem_cons_self
    ·exact .inr (List.mem_cons_of_mem _ h)
   ·rcases List.mem_cons.1 h with rfl | h
    ·exact .inr List.mem_cons_self
    ·rcases putG_mem h with h | h
     ·exact .inl h
     ·exact .inr (List.mem_cons_of_mem _ h)
theorem later_key (x g : Gst) (he : x.src = g.src ∧ x.wlk.id = g.wlk.id) : (later x g).src = g.src ∧ (later x g).wlk.id = g.wlk.id := by
 unfold later
 split
 ·exact ⟨rfl, rfl⟩
 ·exact he
theorem putG_sort {room : Bool} : ∀ {l : List Gst} {g : Gst}, GSort l → GSort (putG room l g)
 | [], g, _ => by simp only [putG]; split <;> simp
 | y :: l, g, hs => by
  obtain ⟨hy, hl⟩ := List.pairwise_cons.1 hs
  simp only [putG]
  split
  ·rename_i h1
   split
   ·refine List.pairwise_cons.2 ⟨fun x hx => ?_, hs⟩
    rcases List.mem_cons.1 hx with rfl | hx
    ·exact h1
    ·have := hy x hx
     rw [gstLess_iff] at *
     omega
   ·exact hs
  ·split
   ·rename_i h1 h2
    refine List.pairwise_cons.2 ⟨fun x hx => ?_, hl⟩
    have := hy x hx
    have hk := later_key y g h2
    rw [gstLess_iff] at *
    omega
   ·rename_i h1 h2
    refine List.pairwise_cons.2 ⟨fun x hx => ?_, putG_sort hl⟩
    rcases putG_mem hx with rfl | h3
    ·rw [gstLess_iff] at *
     omega
    ·exact hy x h3
theorem putG_len {room : Bool} : ∀ (l : List Gst) (g : Gst), (putG room l g).length ≤ l.length + (if room = true then 1 else 0)
 | [], g => by simp only [putG]; split <;> simp
 | y :: l, g => by
  have := putG_len (room := room) l g
  simp only [putG]
  split
  ·split <;> simp
  ·split
   ·simp
   ·simp only [List.length_cons]; omega
theorem gstRec_ok {m : PMap} {l : List Gst} {g : Gst} (hl : gstsOk m l = true) (hg : gstOk m g = true) : gstsOk m (gstRec l g) = true := by
 obtain ⟨h1, h2, h3, h4⟩ := gstsOk_iff.1 hl
 rw [gstRec_put h4]
 refine gstsOk_iff.2 ⟨h1, ?_, fun x hx => ?_, putG_sort h4⟩
 ·have := putG_len (room := decide (l.length < 20)) l g
  by_cases h5 : l.length < 20
  ·rw [decide_eq_true h5, if_pos rfl] at this
   rw [decide_eq_true h5]
   omega
  ·rw [decide_eq_false h5] at this ⊢
   simp at this
   omega
 ·rcases putG_mem hx with rfl | hx
  ·exact hg
  ·exact h3 x hx
theorem write_is {m : PMap} {h : Hld} {s : Sto} {r : Rec} (hn : (hldWrite m h s r).n = 1) :
  hldOk m h = true ∧ stoOk m s = true ∧ h.age = s.age ∧ h.count = s.recs.length ∧ h.count < 250 ∧ logOk m r = true ∧ (cllApply m (stoState m s) r).ok = true ∧ (cllApply m h.state r).ok = true ∧
  (hldWrite m h s r).h = ⟨h.age, h.count + 1, (cllApply m h.state r).c⟩ ∧ (hldWrite m h s r).s = ⟨s.age, s.base, s.recs ++ [r]⟩ ∧ (hldWrite m h s r).k = (cllApply m h.state r).code := by
 unfold hldWrite at *
 split at hn
 ·rename_i hc
  rw [if_pos hc]
  split at hn
  ·rename_i h1
   exact absurd hn h1
  split at hn
  ·cases hn
  ·rename_i h1 h2
   rw [if_neg h1, if_neg h2]
   have h1 : (stoAdd m s h.age h.count r).n = 1 := Classical.not_not.1 h1
   have hl := (stoOk_iff.1 hc.2).2.2.1
   rcases add_cases m s h.age h.count r with ⟨_, h3⟩ | ⟨h3, h4, h5, h6, h7, h8, h9⟩
   ·omega
   ·exact ⟨hc.1, hc.2, h5, h6, by omega, h8, h9, by simpa using h2, rfl, h3, rfl⟩
 ·cases hn
theorem write_two {m : PMap} {h : Hld} {s : Sto} {r : Rec} (hh : hldOk m h = true) (hs : stoOk m s = true) : (hldWrite m h s r).n = 2 ↔ h.age ≠ s.age := by
 constructor
 ·intro hn he
  unfold hldWrite at hn
  rw [if_pos ⟨hh, hs⟩] at hn
  split at hn
  ·rcases add_cases m s h.age h.count r with ⟨_, h2⟩ | ⟨_, h2, _⟩
   ·have hn : (stoAdd m s h.age h.count r).n = 2 := hn
    omega
   ·have hn : (stoAdd m s h.age h.count r).n = 2 := hn
    omega
  split at hn
  ·cases hn
  ·cases hn
 ·intro he
  exact (write_fenced hh hs he).2.2
theorem kind_cell (m : PMap) (c : Cll) (i : Nat) (w : Wlk) (o : Ord) : (doKind m c i w o).c.cell = c.cell := by
 unfold doKind doStep doGive doDrop doPick doThrow
 repeat' split
 all_goals rfl
theorem do_cell (m : PMap) (c : Cll) (o : Ord) : (cllDo m c o).c.cell = c.cell := by
 unfold cllDo
 split
 ·rfl
 ·simp only
  split
  ·rfl
  ·split
   ·rfl
   ·exact kind_cell m c _ _ o
theorem apply_cell (m : PMap) (c : Cll) (r : Rec) : (cllApply m c r).c.cell = c.cell := by
 unfold cllApply
 split
 ·split
  ·exact do_cell m c r.ord
  ·rfl
 ·split
  ·rfl
  ·split
   ·simp only [cllRecv]
    split
    ·rfl
    ·split
     ·rfl
     ·split <;> rfl
   ·simp only [cllRel]
    split <;> rfl
theorem foldTo_cell (m : PMap) (c : Cll) (l : List Rec) : ∀ k, (foldTo m c l k).cell = c.cell
 | 0 => rfl
 | k + 1 => by rw [foldTo_succ, apply_cell, foldTo_cell m c l k]
theorem state_cell (m : PMap) (s : Sto) : (stoState m s).cell = s.base.cell := foldTo_cell m s.base s.recs _
def recOf (x : Msg) : Rec := if x.kind = 2 then ⟨1, x.ord, 0, zeroPcl, 0⟩ else if x.kind = 5 then ⟨2, zeroOrd, x.side, x.pcl, 0⟩ else ⟨3, zeroOrd, x.side, zeroPcl, x.n⟩
def stoOf (st : List Sto) (x : Msg) : Sto := nth .sto st x.cell.toNat
inductive Eff (m : PMap) (s : Srv) (st : List Sto) (x : Msg) : Srv → List Sto → Prop
 | same : Eff m s st x s st
 | ghost (hu : s.up = true) (hk : x.kind = 7) : Eff m s st x ⟨s.up, s.holds, gstRec s.ghosts x.gst⟩ st
 | grant (hu : s.up = true) (hk : x.kind = 1) (hn : srvHas s x.cell = true → (srvHold s x.cell).age < x.n) (ha : (stoOf st x).age ≤ x.n) :
   Eff m s st x ⟨s.up, putH s.holds ⟨x.n, (stoOf st x).recs.length, stoState m (stoOf st x)⟩, s.ghosts⟩ (st.set x.cell.toNat ⟨x.n, (stoOf st x).base, (stoOf st x).recs⟩)
 | lost (hu : s.up = true) (hk : x.kind = 2 ∨ x.kind = 5 ∨ x.kind = 6) (hh : srvHas s x.cell = true) (ha : (srvHold s x.cell).age ≠ (stoOf st x).age) : Eff m s st x ⟨s.up, hldDel s.holds x.cell, s.ghosts⟩ st
 | write (hu : s.up = true) (hk : x.kind = 2 ∨ x.kind = 5 ∨ x.kind = 6) (hh : srvHas s x.cell = true) (ha : (srvHold s x.cell).age = (stoOf st x).age) (hc : (srvHold s x.cell).count = (stoOf st x).recs.length) (hl : (srvHold s x.cell).count < 250)
   (hr : logOk m (recOf x) = true) (h1 : (cllApply m (stoState m (stoOf st x)) (recOf x)).ok = true) (h2 : (cllApply m (srvHold s x.cell).state (recOf x)).ok = true)
   (hf : x.kind = 2 → wlkHas (srvHold s x.cell).state.wlks x.ord.who = true ∧ (wlkFind (srvHold s x.cell).state.wlks x.ord.who).seq < x.ord.seq)
   (hp : x.kind = 5 → nth .int (srvHold s x.cell).state.ins x.side.toNat ≤ x.pcl.n) :
   Eff m s st x ⟨s.up, putH s.holds ⟨(srvHold s x.cell).age, (srvHold s x.cell).count + 1, (cllApply m (srvHold s x.cell).state (recOf x)).c⟩, s.ghosts⟩ (st.set x.cell.toNat ⟨(stoOf st x).age, (stoOf st x).base, (stoOf st x).recs ++ [recOf x]⟩)
theorem sto_in {m : PMap} {st : List Sto} {v : Int} {x : Msg} (h : stosOk m st = true) (hx : msgOk m v x = true) : 0 ≤ x.cell ∧ x.cell.toNat < st.length ∧ stoOk m (stoOf st x) = true ∧ (stoOf st x).base.cell = x.cell := by
 obtain ⟨h1, h2⟩ := msg_in hx
 obtain ⟨h3, h4, h5⟩ := stosOk_iff.1 h
 have hl : x.cell.toNat < st.length := by omega
 obtain ⟨h6, h7⟩ := h5 _ hl
 exact ⟨h1, hl, h6, by rw [stoOf, h7]; omega⟩
theorem msg_kinds {m : PMap} {v : Int} {x : Msg} (hx : msgOk m v x = true) : (x.kind = 1 ∨ x.kind = 2 ∨ x.kind = 5 ∨ x.kind = 6 ∨ x.kind = 7) ∧ 0 ≤ x.dest ∧ x.dest < v ∨ (x.kind = 3 ∨ x.kind = 4) ∧ x.dest = -1 := by
 simp only [msgOk, msgKind, decide_eq_true_eq] at hx
 omega
theorem srvWrite_eff {m : PMap} {s : Srv} {st : List Sto} {v : Int} {x : Msg} (hs : srvOk m s = true) (hst : stosOk m st = true) (hx : msgOk m v x = true) (hu : s.up = true) (hk : x.kind = 2 ∨ x.kind = 5 ∨ x.kind = 6) (hh : srvHas s x.cell = true)
  (hf : x.kind = 2 → wlkHas (srvHold s x.cell).state.wlks x.ord.who = true ∧ (wlkFind (srvHold s x.cell).state.wlks x.ord.who).seq < x.ord.seq)
  (hp : x.kind = 5 → nth .int (srvHold s x.cell).state.ins x.side.toNat ≤ x.pcl.n) :
  Eff m s st x (srvWrite m s st x.cell (recOf x)).srv (srvWrite m s st x.cell (recOf x)).stores ∧
  ((srvWrite m s st x.cell (recOf x)).n = 1 → (srvWrite m s st x.cell (recOf x)).k = (cllApply m (srvHold s x.cell).state (recOf x)).code ∧ (srvWrite m s st x.cell (recOf x)).stores = st.set x.cell.toNat ⟨(stoOf st x).age, (stoOf st x).base, (stoOf st x).recs ++ [recOf x]⟩ ∧
   (srvHold s x.cell).age = (stoOf st x).age ∧ (srvHold s x.cell).count = (stoOf st x).recs.length ∧ (cllApply m (srvHold s x.cell).state (recOf x)).ok = true ∧ (cllApply m (stoState m (stoOf st x)) (recOf x)).ok = true ∧ logOk m (recOf x) = true) := by
 obtain ⟨_, _, hso, _⟩ := sto_in hst hx
 obtain ⟨hm, _⟩ := srvHold_mem hh
 obtain ⟨_, _, hall, hsort⟩ := srvOk_iff.1 hs
 have hho := hall _ hm
 unfold srvWrite
 simp only
 rw [hldPut_put hsort]
 split
 ·rename_i hn
  obtain ⟨g1, g2, g3, g4, g5, g6, g7, g8, g9, g10, g11⟩ := write_is hn
  refine ⟨?_, fun _ => ⟨g11, by rw [g10]; rfl, g3, g4, g8, g7, g6⟩⟩
  have := Eff.write hu hk hh g3 g4 g5 g6 g7 g8 hf hp
  rw [g9, g10]
  exact this
 ·split
  ·rename_i hn1 hn
   exact ⟨.lost hu hk hh ((write_two hho hso).1 hn), fun h => by cases h⟩
  ·rename_i hn1 hn2
   exact ⟨.same, fun h => absurd h hn1⟩
theorem hears_eff {m : PMap} {s : Srv} {st : List Sto} {t : Arb} {v : Int} {x : Msg} (hs : srvOk m s = true) (hst : stosOk m st = true) (hx : msgOk m v x = true) : Eff m s st x (srvHears m s st t x).srv (srvHears m s st t x).stores := by
 obtain ⟨_, _, _, hsort⟩ := srvOk_iff.1 hs
 unfold srvHears
 split
 ·exact .same
 rename_i hu0
 have hu : s.up = true := by
  cases h : s.up with
  | true => rfl
  | false => exact absurd (.inl h) hu0
 have hkk := msg_kinds hx
 have hd : ¬ x.dest = -1 := fun h => hu0 (.inr h)
 split
 ·rename_i hk
  unfold srvGranted
  split
  ·exact .same
  rename_i hn
  split
  ·exact .same
  rename_i ha
  rw [hldPut_put hsort]
  refine .grant hu hk (fun hh => ?_) ?_
  ·exact Int.not_le.1 fun hle => hn ⟨hh, hle⟩
  ·exact Int.not_lt.1 ha
 split
 ·rename_i hk1 hk
  exact .ghost hu hk
 split
 ·exact .same
 rename_i hk1 hk7 hno
 have hh : srvHas s x.cell = true := by simpa using hno
 split
 ·rename_i hk
  unfold srvAsked
  simp only
  split
  ·exact .same
  rename_i hw
  split
  ·exact .same
  rename_i hq1
  split
  ·exact .same
  rename_i hq2
  have e : recOf x = ⟨1, x.ord, 0, zeroPcl, 0⟩ := by rw [recOf, if_pos hk]
  rw [← e]
  exact (srvWrite_eff hs hst hx hu (.inl hk) hh (fun _ => ⟨by simpa using hw, by omega⟩) (fun h => by omega)).1
 split
 ·rename_i hk2 hk
  unfold srvTaken
  simp only
  split
  ·exact .same
  rename_i hq
  have e : recOf x = ⟨2, zeroOrd, x.side, x.pcl, 0⟩ := by rw [recOf, if_neg hk2, if_pos hk]
  rw [← e]
  exact (srvWrite_eff hs hst hx hu (.inr (.inl hk)) hh (fun h => by omega) (fun _ => Int.not_lt.1 hq)).1
 ·rename_i hk2 hk5
  have e : recOf x = ⟨3, zeroOrd, x.side, zeroPcl, x.n⟩ := by rw [recOf, if_neg hk2, if_neg hk5]
  simp only
  rw [← e]
  have hk6 : x.kind = 6 := by omega
  exact (srvWrite_eff hs hst hx hu (.inr (.inr hk6)) hh (fun h => by omega) (fun h => by omega)).1
theorem set_nth (t : RT) {l : List t.ty} {i j : Nat} {x : t.ty} (hi : i < l.length) : nth t (l.set i x) j = if j = i then x else nth t l j := by
 by_cases h : j = i
 ·subst h
  rw [if_pos rfl, nth_set_eq t hi]
 ·rw [if_neg h, nth_set_ne t (fun hh => h hh.symm)]
theorem stos_set {m : PMap} {st : List Sto} {i : Nat} {s : Sto} (h : stosOk m st = true) (hi : i < st.length) (hs : stoOk m s = true) (hb : s.base = (nth .sto st i).base) : stosOk m (st.set i s) = true := by
 obtain ⟨h1, h2, h3⟩ := stosOk_iff.1 h
 refine stosOk_iff.2 ⟨h1, by simpa using h2, fun j hj => ?_⟩
 rw [List.length_set] at hj
 rw [set_nth .sto hi]
 split
 ·rename_i he
  subst he
  exact ⟨hs, by rw [hb]; exact (h3 j hi).2⟩
 ·exact h3 j hj
theorem sto_app {m : PMap} {s : Sto} {r : Rec} (h : stoOk m s = true) (hl : (s.recs.length : Int) < 250) (hr : logOk m r = true) (ha : (cllApply m (stoState m s) r).ok = true) : stoOk m ⟨s.age, s.base, s.recs ++ [r]⟩ = true := by
 obtain ⟨h1, h2, h3, h4⟩ := stoOk_iff.1 h
 refine stoOk_iff.2 ⟨h1, h2, ?_, foldN_app h4 hr ha⟩
 simp
 omega
theorem eff_ok {m : PMap} {s s' : Srv} {st st' : List Sto} {v : Int} {x : Msg} (hs : srvOk m s = true) (hst : stosOk m st = true) (hx : msgOk m v x = true) (he : Eff m s st x s' st') : srvOk m s' = true ∧ stosOk m st' = true ∧ st'.length = st.length ∧ s'.up = s.up := by
 obtain ⟨hc0, hcl, hso, hbc⟩ := sto_in hst hx
 obtain ⟨hg, hup, hh, hso2⟩ := srvOk_iff.1 hs
 cases he with
 | same => exact ⟨hs, hst, rfl, rfl⟩
 | ghost hu hk =>
  have hgo : gstOk m x.gst = true := by
   simp only [msgOk, msgKind, decide_eq_true_eq] at hx
   grind
  exact ⟨srvOk_iff.2 ⟨gstRec_ok hg hgo, srvUp_iff.2 (.inl hu), hh, hso2⟩, hst, rfl, rfl⟩
 | grant hu hk hn ha =>
  have hxn : 1 ≤ x.n ∧ x.n ≤ 900 := by
   simp only [msgOk, msgKind, decide_eq_true_eq] at hx
   omega
  obtain ⟨g1, g2⟩ := age_ok (m := m) (s := stoOf st x) (a := x.n) hso (by omega) (by omega)
  refine ⟨srvOk_iff.2 ⟨hg, srvUp_iff.2 (.inl hu), fun h hm => ?_, putH_sort hso2⟩, stos_set hst hcl g1 rfl, by simp, rfl⟩
  rcases putH_mem hso2 hm with rfl | ⟨h1, _⟩
  ·have hl := (stoOk_iff.1 hso).2.2.1
   exact hldOk_iff.2 ⟨hxn, ⟨by simp, by simp; omega⟩, state_ok hso⟩
  ·exact hh _ h1
 | lost hu hk hh2 ha => exact ⟨srvOk_iff.2 ⟨hg, srvUp_iff.2 (.inl hu), fun h hm => hh _ (del_mem.1 hm).1, del_sort hso2⟩, hst, rfl, rfl⟩
 | write hu hk hh2 ha hc hl hr h1 h2 hf hp =>
  obtain ⟨hm1, hm2⟩ := srvHold_mem hh2
  obtain ⟨o1, o2, o3⟩ := hldOk_iff.1 (hh _ hm1)
  refine ⟨srvOk_iff.2 ⟨hg, srvUp_iff.2 (.inl hu), fun h hm => ?_, putH_sort hso2⟩, stos_set hst hcl (sto_app hso (by omega) hr h1) rfl, by simp, rfl⟩
  rcases putH_mem hso2 hm with rfl | ⟨h3, _⟩
  ·exact hldOk_iff.2 ⟨o1, ⟨by simp only; omega, by simp only; omega⟩, cllApply_ok o3 hr⟩
  ·exact hh _ h3
theorem arbServer_in {m : PMap} {t : Arb} {v : Int} (h : arbOk m t v = true) (c : Int) (hne : arbServer t c ≠ -1) : 0 ≤ arbServer t c ∧ arbServer t c < v ∧ 0 ≤ c ∧ c < m.cells := by
 have hl := arb_len h
 unfold arbServer at *
 split at hne
 ·rename_i hc
  rw [if_pos hc]
  obtain ⟨g1, g2, _⟩ := arb_at h (k := c.toNat) (by omega)
  have g1 : @LE.le Int _ (-1) (nth .int t.servers c.toNat) := g1
  have g2 : @LE.le Int _ (nth .int t.servers c.toNat) (v - 1) := g2
  have hne : ¬ @Eq Int (nth .int t.servers c.toNat) (-1) := fun hh => hne hh
  have : @LE.le Int _ 0 (nth .int t.servers c.toNat) ∧ @LT.lt Int _ (nth .int t.servers c.toNat) v := ⟨by omega, by omega⟩
  exact ⟨this.1, this.2, hc.1, by omega⟩
 ·exact absurd rfl hne
theorem side_back {m : PMap} {c s : Int} (h : plcSide m c s ≠ -1) : (s = 0 ∨ s = 1) ∧ plcOk m = true ∧ 0 ≤ c ∧ c < m.cells ∧ 0 ≤ plcSide m c s ∧ plcSide m c s < m.cells ∧ plcSide m (plcSide m c s) (1 - s) = c ∧ plcSide m c s = c + (2 * s - 1) := by
 obtain ⟨h1, h2, h3, h4⟩ := plcSide_ne h
 have e : plcSide m c s = c + (2 * s - 1) := by
  rcases h4 with ⟨rfl, h5⟩ | ⟨rfl, h5⟩
  ·rw [plcSide, if_pos ⟨h1, h2, h3⟩, if_pos ⟨rfl, h5⟩]; omega
  ·rw [plcSide, if_pos ⟨h1, h2, h3⟩, if_neg (by omega), if_pos ⟨rfl, h5⟩]; omega
 rcases h4 with ⟨rfl, h5⟩ | ⟨rfl, h5⟩
 ·refine ⟨.inl rfl, h1, h2, h3, by omega, by omega, ?_, e⟩
  rw [e, plcSide, if_pos ⟨h1, by omega, by omega⟩, if_neg (by omega), if_pos ⟨by omega, by omega⟩]
  omega
 ·refine ⟨.inr rfl, h1, h2, h3, by omega, by omega, ?_, e⟩
  rw [e, plcSide, if_pos ⟨h1, by omega, by omega⟩, if_pos ⟨by omega, by omega⟩]
  omega
theorem kind_code (m : PMap) (c : Cll) (i : Nat) (w : Wlk) (o : Ord) : 1 ≤ (doKind m c i w o).code ∧ (doKind m c i w o).code ≤ 7 := by
 unfold doKind doStep doGive doDrop doPick doThrow
 repeat' split
 all_goals (simp [cllFin])
theorem do_code {m : PMap} {c : Cll} {o : Ord} (h : cllFresh c o = true) : 1 ≤ (cllDo m c o).code ∧ (cllDo m c o).code ≤ 7 := by
 obtain ⟨h1, h2⟩ := fresh_place h
 rw [cllDo, if_neg h1]
 simp only
 rw [if_neg (by omega), if_neg (by omega)]
 exact kind_code m c _ _ o
theorem zeros : zeroO zeroOrd = true ∧ zeroP zeroPcl = true ∧ zeroGs zeroGst = true := by decide
theorem told_ok {m : PMap} {v : Int} {x : Msg} {n : Int} (hx : msgOk m v x = true) (hk : x.kind = 2) (h1 : 1 ≤ n) (h2 : n ≤ 9) : msgOk m v (msgTold x n) = true := by
 obtain ⟨z1, z2, z3⟩ := zeros
 simp only [msgOk, msgKind, decide_eq_true_eq, msgTold] at hx ⊢
 grind
theorem away_ok {m : PMap} {v : Int} {x : Msg} (hx : msgOk m v x = true) (hk : x.kind = 2) : msgOk m v (msgAway x) = true := by
 obtain ⟨z1, z2, z3⟩ := zeros
 simp only [msgOk, msgKind, decide_eq_true_eq, msgAway] at hx ⊢
 grind
theorem msg_side {m : PMap} {v : Int} {x : Msg} (hx : msgOk m v x = true) (hk : x.kind = 5 ∨ x.kind = 6 ∨ x.kind = 7) : plcSide m x.cell x.side ≠ -1 := by
 simp only [msgOk, msgKind, decide_eq_true_eq] at hx
 grind
theorem msg_pcl {m : PMap} {v : Int} {x : Msg} (hx : msgOk m v x = true) (hk : x.kind = 5) : pclOk m x.pcl = true := by
 simp only [msgOk, msgKind, decide_eq_true_eq] at hx
 grind
theorem got_ok {m : PMap} {t : Arb} {v : Int} {x : Msg} {n : Int} (ht : arbOk m t v = true) (hx : msgOk m v x = true) (hk : x.kind = 5) (h1 : 1 ≤ n) (h2 : n ≤ 5000) : ∀ z ∈ msgGot m t x n, msgOk m v z = true := by
 intro z hz
 unfold msgGot at hz
 split at hz
 ·simp at hz
 rename_i hne
 simp only [List.mem_singleton] at hz
 subst hz
 have hsd := msg_side hx (.inl hk)
 obtain ⟨g1, g2, g3, g4, g5, g6, g7, g8⟩ := side_back hsd
 obtain ⟨a1, a2, a3, a4⟩ := arbServer_in ht _ hne
 obtain ⟨z1, z2, z3⟩ := zeros
 obtain ⟨_, _, _, l1, l2⟩ := arb_len ht
 have g9 : plcSide m (plcSide m x.cell x.side) (1 - x.side) ≠ -1 := by omega
 have g10 : arbServer t (plcSide m x.cell x.side) ≤ v - 1 := by omega
 clear g7 g8 hne hsd ht hx hk
 generalize plcSide m x.cell x.side = d at *
 generalize arbServer t d = y at *
 simp only [msgOk, msgKind, decide_eq_true_eq]
 grind
theorem got_len (m : PMap) (t : Arb) (x : Msg) (n : Int) : (msgGot m t x n).length ≤ 1 := by
 unfold msgGot
 split <;> simp
theorem ins_in {m : PMap} {c : Cll} (h : cllOk m c = true) {s : Nat} (hs : s < 2) : @LE.le Int _ 0 (nth .int c.ins s) ∧ @LE.le Int _ (nth .int c.ins s) 5000 := by
 exact ⟨(cllOk_side h hs).2.1.1, (cllOk_side h hs).2.1.2⟩
theorem recv_ins {m : PMap} {c : Cll} {s : Nat} {p : Pcl} (hs : s < c.ins.length) (h : (cllRecv m c s p).ok = true) : @Eq Int (nth .int (cllRecv m c s p).c.ins s) (nth .int c.ins s + 1) ∧ @Eq Int p.n (nth .int c.ins s) := by
 unfold cllRecv at *
 split at h
 ·cases h
 rename_i h1
 rw [if_neg h1]
 have hpn : @Eq Int p.n (nth .int c.ins s) := Classical.not_not.1 fun hh => h1 (.inl hh)
 split at h
 ·rename_i h2
  rw [if_pos h2]
  exact ⟨nth_set_eq .int hs, hpn⟩
 split at h
 ·cases h
 rename_i h2 h3
 rw [if_neg h2, if_neg h3]
 exact ⟨nth_set_eq .int hs, hpn⟩
theorem hears_out {m : PMap} {s : Srv} {st : List Sto} {t : Arb} {v : Int} {x : Msg} (hs : srvOk m s = true) (hst : stosOk m st = true) (ht : arbOk m t v = true) (hx : msgOk m v x = true) :
  (srvHears m s st t x).out.length ≤ 1 ∧ ∀ z ∈ (srvHears m s st t x).out, msgOk m v z = true := by
 have nil : (([] : List Msg)).length ≤ 1 ∧ ∀ z ∈ ([] : List Msg), msgOk m v z = true := ⟨by simp, by simp⟩
 have one : ∀ y : Msg, msgOk m v y = true → ([y] : List Msg).length ≤ 1 ∧ ∀ z ∈ [y], msgOk m v z = true := fun y hy => ⟨by simp, fun z hz => by simp at hz; subst hz; exact hy⟩
 obtain ⟨_, _, hall, _⟩ := srvOk_iff.1 hs
 unfold srvHears
 split
 ·exact nil
 rename_i hu0
 have hu : s.up = true := by
  cases h : s.up with
  | true => rfl
  | false => exact absurd (.inl h) hu0
 split
 ·unfold srvGranted
  split
  ·exact nil
  split
  ·exact nil
  ·exact nil
 split
 ·exact nil
 split
 ·exact nil
 rename_i hk1 hk7 hno
 have hh : srvHas s x.cell = true := by simpa using hno
 obtain ⟨hm, hmc⟩ := srvHold_mem hh
 have hco := (hldOk_iff.1 (hall _ hm)).2.2
 split
 ·rename_i hk
  unfold srvAsked
  simp only
  split
  ·exact one _ (away_ok hx hk)
  rename_i hw
  split
  ·exact nil
  rename_i hq1
  split
  ·rename_i hq2
   split
   ·exact nil
   ·rename_i hl0
    have hw' : wlkHas (srvHold s x.cell).state.wlks x.ord.who = true := by simpa using hw
    have hf := find_w hw'
    have hwo := cllOk_wlk hco (has_lt hw').1
    refine one _ (told_ok hx hk ?_ ?_)
    ·rw [hf] at hl0 ⊢
     omega
    ·rw [hf]
     omega
  rename_i hq2
  have e : recOf x = ⟨1, x.ord, 0, zeroPcl, 0⟩ := by rw [recOf, if_pos hk]
  rw [← e]
  have hw' : wlkHas (srvHold s x.cell).state.wlks x.ord.who = true := by simpa using hw
  have W := (srvWrite_eff hs hst hx hu (.inl hk) hh (fun _ => ⟨hw', by omega⟩) (fun h => by omega)).2
  split
  ·rename_i hn
   obtain ⟨g1, _, _, _, g2, _⟩ := W hn
   have hfr : cllFresh (srvHold s x.cell).state x.ord = true := by
    simp only [cllFresh, Bool.and_eq_true, decide_eq_true_eq]
    exact ⟨hw', by omega⟩
   have hcode : (cllApply m (srvHold s x.cell).state (recOf x)).code = (cllDo m (srvHold s x.cell).state x.ord).code := by
    rw [e, cllApply, if_pos rfl, if_pos hfr]
   have := do_code (m := m) hfr
   refine one _ (told_ok hx hk ?_ ?_)
   ·rw [g1, hcode]; omega
   ·rw [g1, hcode]; omega
  ·exact nil
 split
 ·rename_i hk2 hk
  have hsd := msg_side hx (.inl hk)
  obtain ⟨s1, _⟩ := side_back hsd
  have hs2 : x.side.toNat < 2 := by omega
  have hii := ins_in hco hs2
  have hpp := pclOk_iff.1 (msg_pcl hx hk)
  unfold srvTaken
  simp only
  split
  ·rename_i hq
   have hq : @LT.lt Int _ x.pcl.n (nth .int (srvHold s x.cell).state.ins x.side.toNat) := hq
   exact ⟨got_len _ _ _ _, got_ok ht hx hk (by omega) (by omega)⟩
  rename_i hq
  have e : recOf x = ⟨2, zeroOrd, x.side, x.pcl, 0⟩ := by rw [recOf, if_neg hk2, if_pos hk]
  rw [← e]
  have W := (srvWrite_eff hs hst hx hu (.inr (.inl hk)) hh (fun h => by omega) (fun _ => Int.not_lt.1 hq)).2
  split
  ·rename_i hn
   obtain ⟨_, _, _, _, g2, _, g3⟩ := W hn
   have hok2 := cllApply_ok hco g3
   have happ : cllApply m (srvHold s x.cell).state (recOf x) = ⟨(cllRecv m (srvHold s x.cell).state x.side.toNat x.pcl).c, 0, (cllRecv m (srvHold s x.cell).state x.side.toNat x.pcl).ok⟩ := by
    rw [e, cllApply, if_neg (by simp), if_neg (by rw [hmc]; exact hsd), if_pos rfl]
   rw [happ] at g2 hok2
   have hl2 := (cllOk_facts hco).2.2.2.2.2.2.2.2
   have hri := recv_ins (s := x.side.toNat) (by omega) g2
   have hi2 := ins_in hok2 hs2
   simp only at hi2
   exact ⟨got_len _ _ _ _, got_ok ht hx hk (by omega) (by omega)⟩
  ·exact nil
 ·exact nil
theorem got_kind {m : PMap} {t : Arb} {x z : Msg} {n : Int} (h : z ∈ msgGot m t x n) : z.kind = 6 := by
 unfold msgGot at h
 split at h
 ·simp at h
 ·simp at h; rw [h]
theorem out_kind {m : PMap} {s : Srv} {st : List Sto} {t : Arb} {x z : Msg} (h : z ∈ (srvHears m s st t x).out) : z.kind = 3 ∨ z.kind = 4 ∨ z.kind = 6 := by
 unfold srvHears at h
 split at h
 ·simp at h
 split at h
 ·unfold srvGranted at h
  split at h
  ·simp at h
  split at h
  ·simp at h
  ·simp at h
 split at h
 ·simp at h
 split at h
 ·simp at h
 split at h
 ·unfold srvAsked at h
  simp only at h
  split at h
  ·simp at h; rw [h]; exact .inr (.inl rfl)
  split at h
  ·simp at h
  split at h
  ·split at h
   ·simp at h
   ·simp at h; rw [h]; exact .inl rfl
  split at h
  ·simp at h; rw [h]; exact .inl rfl
  ·simp at h
 split at h
 ·unfold srvTaken at h
  simp only at h
  split at h
  ·exact .inr (.inr (got_kind h))
  split at h
  ·exact .inr (.inr (got_kind h))
  ·simp at h
 ·simp at h
theorem wldOk_iff {w : Wld} : wldOk w = true ↔ arbOk w.map w.table w.servers.length = true ∧ stosOk w.map w.stores = true ∧ gwyOk w.map w.rows = true ∧ w.net.length ≤ 40 ∧ w.notes.length ≤ 150 ∧
  (∀ i, i < w.stores.length → (nth .sto w.stores i).age ≤ nth .int w.table.ages i) ∧ (∀ s ∈ w.servers, srvOk w.map s = true ∧ ∀ h ∈ s.holds, h.age ≤ nth .int w.table.ages h.state.cell.toNat) ∧
  (∀ x ∈ w.net, msgOk w.map w.servers.length x = true ∧ (x.kind = 1 → x.n ≤ nth .int w.table.ages x.cell.toNat)) ∧ ∀ n ∈ w.notes, noteOk n = true := by
 simp only [wldOk, Bool.and_eq_true, decide_eq_true_eq, and_assoc]
 refine and_congr_right fun _ => and_congr_right fun _ => and_congr_right fun _ => and_congr_right fun _ => and_congr_right fun _ => ?_
 refine and_congr ?_ (and_congr ?_ (and_congr ?_ ?_))
 ·rw [allTo_iff]; simp only [aheadS, decide_eq_true_eq]
 ·rw [allTo_iff]
  simp only [srvIn, Bool.and_eq_true, allTo_iff, aheadH, decide_eq_true_eq]
  constructor
  ·intro h s hs
   obtain ⟨i, hi, rfl⟩ := nth_of_mem .srv hs
   refine ⟨(h i hi).1, fun g hg => ?_⟩
   obtain ⟨j, hj, rfl⟩ := nth_of_mem .hld hg
   exact (h i hi).2 j hj
  ·intro h i hi
   have := h _ (nth_mem .srv hi)
   exact ⟨this.1, fun j hj => this.2 _ (nth_mem .hld hj)⟩
 ·rw [allTo_iff]
  simp only [msgIn, Bool.and_eq_true, decide_eq_true_eq]
  constructor
  ·intro h s hs
   obtain ⟨i, hi, rfl⟩ := nth_of_mem .msg hs
   exact h i hi
  ·intro h i hi
   exact h _ (nth_mem .msg hi)
 ·rw [allTo_iff]
  simp only [noteIn]
  constructor
  ·intro h s hs
   obtain ⟨i, hi, rfl⟩ := nth_of_mem .note hs
   exact h i hi
  ·intro h i hi
   exact h _ (nth_mem .note hi)
theorem send_ok {w : Wld} {l : List Msg} (h : wldOk w = true) (hl : ∀ x ∈ l, msgOk w.map w.servers.length x = true ∧ (x.kind = 1 → x.n ≤ nth .int w.table.ages x.cell.toNat)) : wldOk (wSend w l) = true := by
 obtain ⟨h1, h2, h3, h4, h5, h6, h7, h8, h9⟩ := wldOk_iff.1 h
 refine wldOk_iff.2 ⟨h1, h2, h3, ?_, h5, h6, h7, fun x hx => ?_, h9⟩
 ·simp only [wSend, List.length_append, List.length_take]; omega
 ·simp only [wSend, List.mem_append] at hx
  rcases hx with hx | hx
  ·exact h8 x hx
  ·exact hl x (List.mem_of_mem_take hx)
theorem cut_ok {w : Wld} {i : Nat} (h : wldOk w = true) : wldOk (wCut w i) = true := by
 obtain ⟨h1, h2, h3, h4, h5, h6, h7, h8, h9⟩ := wldOk_iff.1 h
 refine wldOk_iff.2 ⟨h1, h2, h3, ?_, h5, h6, h7, fun x hx => h8 x (List.mem_of_mem_eraseIdx hx), h9⟩
 have := List.length_eraseIdx_le w.net i
 simp only [wCut]; omega
theorem eff_ages {m : PMap} {s s' : Srv} {st st' : List Sto} {v : Int} {x : Msg} {A : List Int} (hs : srvOk m s = true) (hst : stosOk m st = true) (hx : msgOk m v x = true) (he : Eff m s st x s' st') (hA : (A.length : Int) = m.cells)
  (h1 : ∀ i, i < st.length → (nth .sto st i).age ≤ nth .int A i) (h2 : ∀ h ∈ s.holds, h.age ≤ nth .int A h.state.cell.toNat) (h3 : x.kind = 1 → x.n ≤ nth .int A x.cell.toNat) :
  (∀ i, i < st'.length → (nth .sto st' i).age ≤ nth .int A i) ∧ ∀ h ∈ s'.holds, h.age ≤ nth .int A h.state.cell.toNat := by
 obtain ⟨hc0, hcl, hso, hbc⟩ := sto_in hst hx
 obtain ⟨hg, hup, hh, hso2⟩ := srvOk_iff.1 hs
 cases he with
 | same => exact ⟨h1, h2⟩
 | ghost hu hk => exact ⟨h1, h2⟩
 | grant hu hk hn ha =>
  refine ⟨fun i hi => ?_, fun h hm => ?_⟩
  ·rw [List.length_set] at hi
   rw [set_nth .sto hcl]
   split
   ·rename_i he; subst he; exact h3 hk
   ·exact h1 i hi
  ·rcases putH_mem hso2 hm with rfl | ⟨h5, _⟩
   ·simp only
    rw [state_cell, hbc]
    exact h3 hk
   ·exact h2 h h5
 | lost hu hk hh2 ha => exact ⟨h1, fun h hm => h2 h (del_mem.1 hm).1⟩
 | write hu hk hh2 ha hc hl hr g1 g2 hf hp =>
  obtain ⟨hm1, hm2⟩ := srvHold_mem hh2
  refine ⟨fun i hi => ?_, fun h hm => ?_⟩
  ·rw [List.length_set] at hi
   rw [set_nth .sto hcl]
   split
   ·rename_i he; subst he; exact h1 _ hcl
   ·exact h1 i hi
  ·rcases putH_mem hso2 hm with rfl | ⟨h5, _⟩
   ·simp only
    rw [apply_cell]
    exact h2 _ hm1
   ·exact h2 h h5
theorem hear_ok {w : Wld} {x : Msg} (h : wldOk w = true) (hx : msgOk w.map w.servers.length x = true) (hx2 : x.kind = 1 → x.n ≤ nth .int w.table.ages x.cell.toNat) (hd : x.dest ≠ -1) : wldOk (wHear w x) = true ∧ (wHear w x).servers.length = w.servers.length := by
 obtain ⟨h1, h2, h3, h4, h5, h6, h7, h8, h9⟩ := wldOk_iff.1 h
 have hdd : 0 ≤ x.dest ∧ x.dest < w.servers.length := by
  rcases msg_kinds hx with ⟨_, g1, g2⟩ | ⟨_, g⟩
  ·exact ⟨g1, g2⟩
  ·exact absurd g hd
 have hdn : x.dest.toNat < w.servers.length := by omega
 obtain ⟨o1, o2⟩ := h7 _ (nth_mem .srv hdn)
 have he := hears_eff (t := w.table) o1 h2 hx
 obtain ⟨e1, e2, e3, e4⟩ := eff_ok o1 h2 hx he
 obtain ⟨_, hal, _⟩ := arb_len h1
 obtain ⟨a1, a2⟩ := eff_ages o1 h2 hx he hal h6 o2 hx2
 refine ⟨?_, by simp [wHear, wSend]⟩
 unfold wHear
 simp only
 refine send_ok ?_ fun z hz => ?_
 ·refine wldOk_iff.2 ⟨by simpa using h1, e2, h3, h4, h5, a1, fun s hs => ?_, by simpa using h8, h9⟩
  rcases List.mem_or_eq_of_mem_set hs with hs | rfl
  ·exact h7 s hs
  ·exact ⟨e1, a2⟩
 ·have ho := (hears_out o1 h2 h1 hx).2 z hz
  refine ⟨by simpa using ho, fun hk => ?_⟩
  have := out_kind hz
  omega
theorem gwy_set {m : PMap} {l : List Row} {i : Nat} {r : Row} (h : gwyOk m l = true) (hi : i < l.length) (hr : rowOk m r = true) (hw : r.who = (nth .row l i).who) : gwyOk m (l.set i r) = true := by
 have h0 := h
 unfold gwyOk at h ⊢
 rw [Bool.and_eq_true] at h ⊢
 refine ⟨h.1, (allTo_iff _ _).2 fun j hj => ?_⟩
 rw [List.length_set] at hj
 obtain ⟨h1, h2⟩ := gwy_at h0 hj
 have hwho : ∀ k, (nth .row (l.set i r) k).who = (nth .row l k).who := fun k => by
  rw [set_nth .row hi]
  split
  ·rename_i he; subst he; exact hw
  ·rfl
 simp only [gwRowAt, Bool.and_eq_true, Bool.or_eq_true, decide_eq_true_eq, hwho]
 refine ⟨?_, ?_⟩
 ·rw [set_nth .row hi]
  split
  ·exact hr
  ·exact h1
 ·by_cases hj0 : j = 0
  ·exact .inl hj0
  ·exact .inr (h2 (by omega))
theorem row_ok {m : PMap} {l : List Row} {who : Int} (h : gwyOk m l = true) (hp : 0 ≤ rowPlace l who) : rowOk m (rowAt l who) = true ∧ (rowAt l who).who = who ∧ (rowPlace l who).toNat < l.length := by
 have hlt := row_lt l who
 have hl : (rowPlace l who).toNat < l.length := by omega
 exact ⟨(gwy_at h hl).1, row_who hp, hl⟩
theorem gwy_plc {m : PMap} {l : List Row} (h : gwyOk m l = true) : plcOk m = true := by
 unfold gwyOk at h
 rw [Bool.and_eq_true] at h
 exact h.1
theorem rowOk_iff {m : PMap} {r : Row} : rowOk m r = true ↔ (1 ≤ r.who ∧ r.who ≤ 9 ∧ 0 ≤ r.cell ∧ r.cell < m.cells ∧ 0 ≤ r.seq ∧ r.seq ≤ 900 ∧ 0 ≤ r.code ∧ r.code ≤ 9) ∧ (r.busy = false → zeroO r.ord = true) ∧ (r.busy = true → ordOk r.ord = true ∧ r.ord.who = r.who ∧ r.ord.seq = r.seq + 1) := by
 simp only [rowOk, decide_eq_true_eq]
 constructor
 ·rintro ⟨a, b, c, d, e, f, g, h, i, j⟩
  exact ⟨⟨a, b, c, d, e, f, g, h⟩, i, j⟩
 ·rintro ⟨⟨a, b, c, d, e, f, g, h⟩, i, j⟩
  exact ⟨a, b, c, d, e, f, g, h, i, j⟩
theorem cell_mod {c n : Int} (h0 : 0 ≤ c) (h1 : c < n) (h2 : n ≤ 4) : 0 ≤ (c + 1).tmod n ∧ (c + 1).tmod n < n := by
 constructor
 ·exact Int.tmod_nonneg _ (by omega)
 ·have := Int.tmod_lt_of_pos (c + 1) (show 0 < n by omega)
  omega
theorem gwyHear_ok {m : PMap} {l : List Row} {v : Int} {x : Msg} (h : gwyOk m l = true) (hx : msgOk m v x = true) : gwyOk m (gwyHear m l x).b = true ∧ (gwyHear m l x).b.length = l.length ∧
  ((gwyHear m l x).ok = true → x.kind = 3 ∧ 0 ≤ rowPlace l x.ord.who ∧ (rowAt l x.ord.who).busy = true ∧ (rowAt l x.ord.who).ord = x.ord ∧ noteOk ⟨x.ord.who, x.ord.seq, x.n⟩ = true) := by
 unfold gwyHear
 simp only
 split
 ·rename_i hc
  obtain ⟨hp, hb, ho⟩ := hc
  obtain ⟨r1, r2, r3⟩ := row_ok h hp
  obtain ⟨g1, g2, g3⟩ := rowOk_iff.1 r1
  obtain ⟨g4, g5, g6⟩ := g3 hb
  rw [ho] at g4 g6
  obtain ⟨m1, m2⟩ := msg_in hx
  have hpl := plcOk_iff.1 (gwy_plc h)
  split
  ·rename_i hk
   have hn : 1 ≤ x.n ∧ x.n ≤ 9 := by
    simp only [msgOk, msgKind, decide_eq_true_eq] at hx
    grind
   have hoo := ordOk_iff.1 g4
   refine ⟨gwy_set h r3 (rowOk_iff.2 ⟨⟨by simp only; omega, by simp only; omega, m1, m2, by simp only; omega, by simp only; omega, by simp only; omega, hn.2⟩, fun _ => zeros.1, fun hh => by cases hh⟩) rfl, by simp, fun _ => ⟨hk, hp, hb, ho, ?_⟩⟩
   simp only [noteOk, decide_eq_true_eq]
   omega
  ·split
   ·rename_i hk
    have hcr := cell_mod g1.2.2.1 g1.2.2.2.1 (by omega)
    refine ⟨gwy_set h r3 (rowOk_iff.2 ⟨⟨g1.1, g1.2.1, hcr.1, hcr.2, g1.2.2.2.2⟩, g2, g3⟩) rfl, by simp, fun hh => by cases hh⟩
   ·exact ⟨h, rfl, fun hh => by cases hh⟩
 ·exact ⟨h, rfl, fun hh => by cases hh⟩
theorem gwyAsk_ok {m : PMap} {l : List Row} {who kind dest n : Int} (h : gwyOk m l = true) : gwyOk m (gwyAsk l who kind dest n).b = true ∧ (gwyAsk l who kind dest n).b.length = l.length := by
 unfold gwyAsk
 split
 ·rename_i hc
  obtain ⟨hp, hb, ho⟩ := hc
  obtain ⟨r1, r2, r3⟩ := row_ok h hp
  have r1 : rowOk m (nth .row l (rowPlace l who).toNat) = true := r1
  have r2 : (nth .row l (rowPlace l who).toNat).who = who := r2
  obtain ⟨g1, g2, g3⟩ := rowOk_iff.1 r1
  exact ⟨gwy_set h r3 (rowOk_iff.2 ⟨g1, (fun hh => by cases hh), fun _ => ⟨ho, r2.symm, rfl⟩⟩) rfl, by simp⟩
 ·exact ⟨h, rfl⟩
theorem gwySay_ok {m : PMap} {l : List Row} {t : Arb} {v who : Int} (h : gwyOk m l = true) (ht : arbOk m t v = true) (hs : (gwySay l t who).ok = true) : msgOk m v (gwySay l t who).x = true ∧ (gwySay l t who).x.kind = 2 := by
 unfold gwySay at *
 split at hs
 ·rename_i hc
  rw [if_pos hc]
  obtain ⟨hp, hb, ho⟩ := hc
  obtain ⟨r1, r2, r3⟩ := row_ok h hp
  obtain ⟨g1, g2, g3⟩ := rowOk_iff.1 r1
  obtain ⟨a1, a2, a3, a4⟩ := arbServer_in ht _ ho
  obtain ⟨z1, z2, z3⟩ := zeros
  obtain ⟨_, _, l0, l1, l2⟩ := arb_len ht
  have g4 := (g3 hb).1
  refine ⟨?_, rfl⟩
  have a2' : arbServer t (rowAt l who).cell ≤ v - 1 := by omega
  generalize arbServer t (rowAt l who).cell = y at *
  simp only [msgOk, msgKind, decide_eq_true_eq]
  grind
 ·cases hs
theorem grant_ok {m : PMap} {t : Arb} {v cell server : Int} (ht : arbOk m t v = true) (hg : (arbGrant t v cell server).ok = true) :
  arbOk m (arbGrant t v cell server).t v = true ∧ 0 ≤ cell ∧ cell < m.cells ∧ 0 ≤ server ∧ server < v ∧ (arbGrant t v cell server).t = ⟨t.servers.set cell.toNat server, t.ages.set cell.toNat (nth .int t.ages cell.toNat + 1)⟩ ∧
  @LE.le Int _ 0 (nth .int t.ages cell.toNat) ∧ @LT.lt Int _ (nth .int t.ages cell.toNat) 900 := by
 unfold arbGrant at *
 split at hg
 ·rename_i hc
  rw [if_pos hc]
  obtain ⟨c1, c2, c3, c4, c5⟩ := hc
  obtain ⟨l1, l2, l3, l4, l5⟩ := arb_len ht
  obtain ⟨b1, b2, b3, b4, b5⟩ := arb_at ht (k := cell.toNat) (by omega)
  have b3 : @LE.le Int _ 0 (nth .int t.ages cell.toNat) := b3
  have b4 : @LE.le Int _ (nth .int t.ages cell.toNat) 900 := b4
  have c5 : ¬ @Eq Int (nth .int t.ages cell.toNat) 900 := c5
  refine ⟨?_, c1, by omega, c3, c4, rfl, b3, by omega⟩
  unfold arbOk
  rw [Bool.and_eq_true]
  refine ⟨by simp only [arbHead, decide_eq_true_eq, List.length_set]; exact ⟨l3, l4, l5, l1, l2⟩, (allTo_iff _ _).2 fun k hk => ?_⟩
  rw [List.length_set] at hk
  have hk2 : cell.toNat < t.ages.length := by omega
  have hk3 : cell.toNat < t.servers.length := by omega
  obtain ⟨d1, d2, d3, d4, d5⟩ := arb_at ht hk
  simp only [arbAt, decide_eq_true_eq]
  rw [set_nth .int hk3, set_nth .int hk2]
  by_cases he : k = cell.toNat
  ·simp only [if_pos he]
   have : ∀ a : Int, 0 ≤ a → a ≤ 900 → ¬ a = 900 → -1 ≤ server ∧ server ≤ v - 1 ∧ 0 ≤ a + 1 ∧ a + 1 ≤ 900 ∧ (server = -1 ↔ a + 1 = 0) := fun a h1 h2 h3 => ⟨by omega, by omega, by omega, by omega, by omega⟩
   exact this _ b3 b4 c5
  ·simp only [if_neg he]
   exact ⟨d1, d2, d3, d4, d5⟩
 ·cases hg
theorem ages_grant {m : PMap} {t : Arb} {v cell server : Int} (ht : arbOk m t v = true) (hg : (arbGrant t v cell server).ok = true) (i : Nat) : @LE.le Int _ (nth .int t.ages i) (nth .int (arbGrant t v cell server).t.ages i) := by
 obtain ⟨_, c1, c2, _, _, e, b3, b4⟩ := grant_ok ht hg
 obtain ⟨_, l2, _⟩ := arb_len ht
 rw [e]
 simp only
 rw [set_nth .int (by omega)]
 split
 ·rename_i he
  subst he
  have : ∀ a : Int, a ≤ a + 1 := fun a => by omega
  exact this _
 ·exact Int.le_refl _
theorem tick_ok {m : PMap} {s : Srv} {t : Arb} {v cell : Int} (hs : srvOk m s = true) (ht : arbOk m t v = true) : ∀ z ∈ srvTick m s t cell, msgOk m v z = true ∧ (z.kind = 5 ∨ z.kind = 7) := by
 intro z hz
 unfold srvTick at hz
 split at hz
 rotate_left
 ·simp at hz
 rename_i hh
 obtain ⟨hm, hc⟩ := srvHold_mem hh
 have hho := (srvOk_iff.1 hs).2.2.1 _ hm
 generalize srvHold s cell = h at *
 have hco := (hldOk_iff.1 hho).2.2
 have hcf := cllOk_facts hco
 obtain ⟨z1, z2, z3⟩ := zeros
 obtain ⟨_, _, l0, l1, l2⟩ := arb_len ht
 have go : ∀ side : Nat, side < 2 → ∀ z ∈ tickSide m t h cell side, msgOk m v z = true ∧ (z.kind = 5 ∨ z.kind = 7) := by
  intro side hsd z hz
  unfold tickSide at hz
  simp only at hz
  split at hz
  ·simp at hz
  rename_i hne
  have hn1 : plcSide m cell side ≠ -1 := fun e => hne (.inl e)
  have hn2 : arbServer t (plcSide m cell side) ≠ -1 := fun e => hne (.inr e)
  obtain ⟨g1, g2, g3, g4, g5, g6, g7, g8⟩ := side_back hn1
  obtain ⟨a1, a2, a3, a4⟩ := arbServer_in ht _ hn2
  have g9 : plcSide m (plcSide m cell side) (1 - side) ≠ -1 := by omega
  have a5 : arbServer t (plcSide m cell side) ≤ v - 1 := by omega
  rcases List.mem_append.1 hz with hz | hz
  ·obtain ⟨p, hp, rfl⟩ := List.mem_map.1 hz
   refine ⟨?_, .inl rfl⟩
   have hpo : pclOk m p = true := by
    have hp := List.mem_of_mem_take hp
    have hl := (cllOk_side hco hsd).2.2.2
    rw [Int.toNat_natCast] at hp
    obtain ⟨i, hi, rfl⟩ := nth_of_mem .pcl hp
    exact ((pclListOk_iff.1 hl).2.2.2.2 i hi).1
   clear hn1 hn2 hne g7 g8 hz
   generalize plcSide m cell side = d at *
   generalize arbServer t d = y at *
   simp only [msgOk, msgKind, decide_eq_true_eq]
   grind
  ·obtain ⟨g, hg, rfl⟩ := List.mem_map.1 hz
   refine ⟨?_, .inr rfl⟩
   have hg := List.mem_of_mem_take hg
   unfold ghosts ghTo at hg
   obtain ⟨w, hw, rfl⟩ := List.mem_map.1 hg
   rw [flt_all] at hw
   obtain ⟨hw1, hw2⟩ := List.mem_filter.1 hw
   have hwo := (cllOk_iff.1 hco).1 w hw1
   have hgo : gstOk m ⟨h.state.cell, h.count, w⟩ = true := by
    obtain ⟨_, k1, _⟩ := hldOk_iff.1 hho
    simp only [gstOk, decide_eq_true_eq]
    refine ⟨k1.1, k1.2, hwo.1, hwo.2, ?_⟩
    rcases g1 with g1 | g1
    ·rw [g1] at hw2; exact .inl hw2
    ·rw [g1] at hw2; exact .inr hw2
   have hsrc : h.state.cell = plcSide m (plcSide m cell side) (1 - side) := by rw [g7, hc]
   clear hn1 hn2 hne g7 g8 hz hw hg
   generalize plcSide m cell side = d at *
   generalize arbServer t d = y at *
   simp only [msgOk, msgKind, decide_eq_true_eq]
   grind
 rcases List.mem_append.1 hz with hz | hz
 ·exact go 0 (by omega) z hz
 ·exact go 1 (by omega) z hz
theorem step_ok {w : Wld} {e : Evt} (h : wldOk w = true) : wldOk (wStep w e) = true ∧ (wStep w e).servers.length = w.servers.length ∧ (wStep w e).map = w.map := by
 obtain ⟨h1, h2, h3, h4, h5, h6, h7, h8, h9⟩ := wldOk_iff.1 h
 have plain : ∀ z : Msg, z.kind ≠ 1 → (z.kind = 1 → z.n ≤ nth .int w.table.ages z.cell.toNat) := fun z hz hk => absurd hk hz
 unfold wStep
 split
 ·simp only
  split
  ·rename_i hg
   obtain ⟨g1, c1, c2, c3, c4, ge, b3, b4⟩ := grant_ok h1 hg
   have hmono := ages_grant h1 hg
   obtain ⟨l1, l2, l3, l4, l5⟩ := arb_len h1
   refine ⟨send_ok (wldOk_iff.2 ⟨g1, h2, h3, h4, h5, fun i hi => Int.le_trans (h6 i hi) (hmono i), fun s hs => ⟨(h7 s hs).1, fun x hx => Int.le_trans ((h7 s hs).2 x hx) (hmono _)⟩, fun x hx => ⟨(h8 x hx).1, fun hk => Int.le_trans ((h8 x hx).2 hk) (hmono _)⟩, h9⟩) fun x hx => ?_, by simp [wSend], rfl⟩
   simp only [List.mem_singleton] at hx
   subst hx
   refine ⟨?_, fun _ => Int.le_refl _⟩
   obtain ⟨z1, z2, z3⟩ := zeros
   have hn : @LE.le Int _ 1 (nth .int (arbGrant w.table w.servers.length e.pos e.dest).t.ages e.pos.toNat) ∧ @LE.le Int _ (nth .int (arbGrant w.table w.servers.length e.pos e.dest).t.ages e.pos.toNat) 900 := by
    rw [ge]
    simp only
    rw [nth_set_eq .int (by omega)]
    have : ∀ a : Int, 0 ≤ a → a < 900 → 1 ≤ a + 1 ∧ a + 1 ≤ 900 := fun a _ _ => by omega
    exact this _ b3 b4
   have hd : e.dest ≤ (w.servers.length : Int) - 1 := by omega
   generalize nth .int (arbGrant w.table w.servers.length e.pos e.dest).t.ages e.pos.toNat = y at *
   simp only [msgOk, msgKind, decide_eq_true_eq]
   grind
  ·exact ⟨h, rfl, rfl⟩
 split
 ·have hg := @gwyAsk_ok w.map w.rows e.pos e.what e.dest e.n h3
  exact ⟨wldOk_iff.2 ⟨h1, h2, hg.1, h4, h5, h6, h7, h8, h9⟩, rfl, rfl⟩
 split
 ·split
  ·rename_i hs
   obtain ⟨g1, g2⟩ := gwySay_ok h3 h1 hs
   exact ⟨send_ok h fun x hx => by
    simp only [List.mem_singleton] at hx
    subst hx
    exact ⟨g1, plain _ (by omega)⟩, by simp [wSend], rfl⟩
  ·exact ⟨h, rfl, rfl⟩
 split
 ·split
  ·rename_i hp
   have hpl : e.pos.toNat < w.net.length := by omega
   have hx := h8 _ (nth_mem .msg hpl)
   split
   ·unfold wBring
    simp only
    have hc := @cut_ok w e.pos.toNat h
    split
    ·unfold wGate
     simp only
     obtain ⟨c1, c2, c3, c4, c5, c6, c7, c8, c9⟩ := wldOk_iff.1 hc
     obtain ⟨g1, g2, g3⟩ := gwyHear_ok c3 (by simpa [wCut] using hx.1)
     refine ⟨wldOk_iff.2 ⟨c1, c2, g1, c4, ?_, c6, c7, c8, ?_⟩, rfl, rfl⟩
     ·simp only
      split
      ·rename_i hh
       simp only [List.length_append, List.length_singleton]
       omega
      ·exact c5
     ·intro n hn
      simp only at hn
      split at hn
      ·rename_i hh
       rcases List.mem_append.1 hn with hn | hn
       ·exact c9 n hn
       ·simp only [List.mem_singleton] at hn
        subst hn
        exact (g3 hh.1).2.2.2.2
      ·exact c9 n hn
    ·rename_i hd
     obtain ⟨g1, g2⟩ := hear_ok hc (by simpa [wCut] using hx.1) (by simpa [wCut] using hx.2) hd
     exact ⟨g1, by rw [g2]; rfl, rfl⟩
   split
   ·exact ⟨cut_ok h, rfl, rfl⟩
   ·exact ⟨send_ok h fun x hx' => by
     simp only [List.mem_singleton] at hx'
     subst hx'
     exact hx, by simp [wSend], rfl⟩
  ·exact ⟨h, rfl, rfl⟩
 split
 ·split
  ·rename_i hp
   have hpl : e.pos.toNat < w.servers.length := by omega
   have hz : ∀ b : Bool, srvOk w.map ⟨b, [], []⟩ = true := fun b => srvOk_iff.2 ⟨gstsOk_iff.2 ⟨(arb_len h1).2.2.1, by simp, by simp, by simp⟩, srvUp_iff.2 (.inr ⟨rfl, rfl⟩), by simp, by simp⟩
   have life : ∀ b : Bool, wldOk ⟨w.map, w.servers.set e.pos.toNat ⟨b, [], []⟩, w.stores, w.table, w.rows, w.net, w.notes⟩ = true := fun b => wldOk_iff.2 ⟨by simpa using h1, h2, h3, h4, h5, h6, fun s hs => by
    rcases List.mem_or_eq_of_mem_set hs with hs | rfl
    ·exact h7 s hs
    ·exact ⟨hz b, by simp⟩, by simpa using h8, h9⟩
   split
   ·have ht := @tick_ok w.map (nth .srv w.servers e.pos.toNat) w.table w.servers.length e.dest (h7 _ (nth_mem .srv hpl)).1 h1
    exact ⟨send_ok h fun x hx => ⟨(ht x hx).1, plain _ (by have := (ht x hx).2; omega)⟩, by simp [wSend], rfl⟩
   split
   ·exact ⟨life false, by simp, rfl⟩
   split
   ·exact ⟨life true, by simp, rfl⟩
   ·exact ⟨h, rfl, rfl⟩
  ·exact ⟨h, rfl, rfl⟩
 ·exact ⟨h, rfl, rfl⟩
end Go.Mo
namespace Go.Sx
inductive ImpB (P Q : Prop) : Prop where
 | mk (h : P → Q) : ImpB P Q
theorem ImpB.out {P Q : Prop} (h : ImpB P Q) : P → Q := let ⟨h⟩ := h; h
inductive MeasB (a b : Th Nat) : Prop where
 | mk (h : a () < b ()) : MeasB a b
theorem MeasB.out {a b : Th Nat} (h : MeasB a b) : a () < b () := let ⟨h⟩ := h; h
theorem LoopIn.wb {A : Ann} {σ0 σ : St} (i : A.ι) (hc : A.cond σ0 i ()) (hm : matchSt σ (A.st σ0 i)) : LoopIn A σ0 σ := ⟨i, hc, hm⟩
theorem LoopBack.wb {A : Ann} {σ0 σ : St} {i : A.ι} (i' : A.ι) (hc : A.cond σ0 i' ()) (hd : MeasB (A.meas σ0 i') (A.meas σ0 i)) (hm : matchSt σ (A.st σ0 i')) : LoopBack A σ0 i σ := ⟨i', hc, hd.out, hm⟩
def thinC (c : C) : C := match c with
 | .att (.list _ _) => .unk
 | .att a => .att a
 | .ptr k v j => .ptr k v j
 | _ => .unk
def thinCh (c : Ch) : Ch := match c with
 | .var bx cs => .var bx (cs.map thinC)
 | c => c
def thinHp : Hp → Hp
 | .leaf => .leaf
 | .node e l r => .node (e.1, thinCh e.2) (thinHp l) (thinHp r)
def thinV (v : V) : V := match v with
 | .one (.ptr k v j) => .one (.ptr k v j)
 | _ => .one .unk
def thinTm : Tr V → Tr V
 | .leaf => .leaf
 | .node v l r => .node (thinV v) (thinTm l) (thinTm r)
def St.thin (σ : St) (kv : Nat) : St := ⟨σ.tm, (thinHp σ.hp).set kv (σ.hp.get kv), σ.up.map thinTm⟩
def St.only (σ : St) (ds : List Nat) : St := ⟨ds.foldr (fun d t => t.set d (σ.tm.get d)) .leaf, σ.hp, σ.up⟩
def St.pk (σ : St) (d : Nat) : Nat := match σ.tm.get d with
 | .one (.ptr k _ _) => k
 | _ => 0
def ownK (c : C) : Nat := match c with
 | .own k _ => k
 | _ => 0
def St.okC (σ : St) (k j : Nat) : Nat := match (σ.hp.get k).2 with
 | .var _ cs => ownK ((cs[j]?).getD .unk)
 | _ => 0
def St.okT (σ : St) (d : Nat) : Nat := match σ.tm.get d with
 | .one c => ownK c
 | _ => 0
def noMsgs : Th (List Msg) := fun _ => []
def asMsgs (t : RT) (l : Th (List t.ty)) : Th (List Msg) := match t, l with
 | .msg, l => l
 | _, _ => noMsgs
def chMsgs (c : Ch) : Th (List Msg) := match c with
 | .row _ _ t l => asMsgs t l
 | .ro t l => asMsgs t l
 | _ => noMsgs
def St.rowM (σ : St) (k : Nat) : Th (List Msg) := chMsgs (σ.hp.get k).2
def atMsgs (σ : St) (c : C) : Th (List Msg) := match c with
 | .att (.list t l) => asMsgs t l
 | .own k _ => σ.rowM k
 | _ => noMsgs
def St.tmM (σ : St) (d : Nat) : Th (List Msg) := match σ.tm.get d with
 | .one c => atMsgs σ c
 | _ => noMsgs
def noInt : Th Int := fun _ => 0
def St.tmI (σ : St) (d : Nat) : Th Int := match σ.tm.get d with
 | .one (.att (.int _ n)) => n
 | _ => noInt
end Go.Sx
namespace Go.Mo
open Go.Sx
def cutTo (l : List Msg) (i : Nat) (k : Nat) : List Msg := (l.take k).eraseIdx i
theorem cutTo_zero (l : List Msg) (i : Nat) : cutTo l i 0 = [] := by simp [cutTo]
theorem cutTo_all (l : List Msg) (i : Nat) : cutTo l i l.length = l.eraseIdx i := by simp [cutTo]
theorem cutTo_len (l : List Msg) (i k : Nat) : (cutTo l i k).length ≤ k := by
 unfold cutTo
 have := List.length_eraseIdx_le (l.take k) i
 have h2 := List.length_take_le k l
 omega
theorem cutTo_no {l : List Msg} {i k : Nat} (h : k < l.length) (hne : ¬ k = i) : cutTo l i (k + 1) = cutTo l i k ++ [nth .msg l k] := by
 unfold cutTo
 have h1 : l.take (k + 1) = l.take k ++ [nth .msg l k] := pre_succ .msg h
 rw [h1]
 have h2 : (l.take k).length = k := by simp; omega
 by_cases h3 : i < k
 ·rw [List.eraseIdx_append_of_lt_length (by omega)]
 ·rw [List.eraseIdx_append_of_length_le (by omega), List.eraseIdx_of_length_le (by simp; omega), List.eraseIdx_of_length_le (by omega)]
theorem cutTo_yes {l : List Msg} {i k : Nat} (h : k < l.length) (hne : k = i) : cutTo l i (k + 1) = cutTo l i k := by
 unfold cutTo
 subst hne
 have h1 : l.take (k + 1) = l.take k ++ [nth .msg l k] := pre_succ .msg h
 have h2 : (l.take k).length = k := by simp; omega
 rw [h1, List.eraseIdx_append_of_length_le (by omega), List.eraseIdx_of_length_le (l := l.take k) (by omega), h2, Nat.sub_self]
 simp
end Go.Mo
namespace Go.Sx
theorem LoopIn.wf {A : Ann} {σ0 σ : St} (f : St → A.ι) (hc : A.cond σ0 (f σ) ()) (hm : matchSt σ (A.st σ0 (f σ))) : LoopIn A σ0 σ := ⟨f σ, hc, hm⟩
theorem LoopBack.wf {A : Ann} {σ0 σ : St} {i : A.ι} (f : St → A.ι) (hc : A.cond σ0 (f σ) ()) (hd : MeasB (A.meas σ0 (f σ)) (A.meas σ0 i)) (hm : matchSt σ (A.st σ0 (f σ))) : LoopBack A σ0 i σ := ⟨f σ, hc, hd.out, hm⟩
def asI (c : C) : Th Int := match c with
 | .att (.int _ n) => n
 | _ => noInt
def noBool : Th Bool := fun _ => false
def asB (c : C) : Th Bool := match c with
 | .att (.bool b) => fun _ => b.val
 | _ => noBool
def noList (t : RT) : Th (List t.ty) := fun _ => []
def asL (t : RT) (c : C) : Th (List t.ty) := match c with
 | .att (.list t' l) => if h : t' = t then castL h l else noList t
 | _ => noList t
def St.ce (σ : St) (k j : Nat) : C := match (σ.hp.get k).2 with
 | .var _ cs => (cs[j]?).getD .unk
 | _ => .unk
def chL (t : RT) (c : Ch) : Th (List t.ty) := match c with
 | .row _ _ t' l => if h : t' = t then castL h l else noList t
 | .ro t' l => if h : t' = t then castL h l else noList t
 | _ => noList t
def St.rowL (t : RT) (σ : St) (k : Nat) : Th (List t.ty) := chL t (σ.hp.get k).2
def mkRow (a b : Th Int) (c : Th Bool) (d e f g h i j : Th Int) : Th Row := fun _ => ⟨a (), b (), c (), ⟨d (), e (), f (), g (), h ()⟩, i (), j ()⟩
def rdRow (σ : St) (k : Nat) : Th Row := mkRow (asI (σ.ce k 0)) (asI (σ.ce k 1)) (asB (σ.ce k 2)) (asI (σ.ce k 3)) (asI (σ.ce k 4)) (asI (σ.ce k 5)) (asI (σ.ce k 6)) (asI (σ.ce k 7)) (asI (σ.ce k 8)) (asI (σ.ce k 9))
def mkWld (a b : Th Int) (c : Th (List Srv)) (d : Th (List Sto)) (e f : Th (List Int)) (g : Th (List Row)) (h : Th (List Msg)) (i : Th (List Note)) : Th Wld := fun _ => ⟨⟨a (), b ()⟩, c (), d (), ⟨e (), f ()⟩, g (), h (), i ()⟩
def rdWld (σ : St) (k : Nat) : Th Wld := mkWld (asI (σ.ce k 0)) (asI (σ.ce k 1)) (asL .srv (σ.ce k 2)) (asL .sto (σ.ce k 3)) (asL .int (σ.ce k 4)) (asL .int (σ.ce k 5)) (asL .row (σ.ce k 6)) (asL .msg (σ.ce k 7)) (asL .note (σ.ce k 8))
def St.cellsA (σ : St) (k : Nat) : Nat → List A → St
 | _, [] => σ
 | j, a :: r => (σ.cellC k j (.att a)).cellsA k (j + 1) r
end Go.Sx
namespace Go.Mo
open Go.Sx
def cellHas (m : PMap) (cell : Int) (w : Wlk) : Bool := decide (plcCell m w.pos = cell)
def inCell (m : PMap) (cell : Int) (l : List Wlk) (k : Nat) : List Wlk := (l.take k).filter (cellHas m cell)
theorem inCell_zero (m : PMap) (cell : Int) (l : List Wlk) : inCell m cell l 0 = [] := by simp [inCell]
theorem inCell_len (m : PMap) (cell : Int) (l : List Wlk) (k : Nat) : (inCell m cell l k).length ≤ k ∧ (inCell m cell l k).length ≤ l.length := by
 unfold inCell
 have h1 := List.length_filter_le (cellHas m cell) (l.take k)
 have h2 := List.length_take_le k l
 have h3 := List.length_take_le' k l
 omega
theorem inCell_yes {m : PMap} {cell : Int} {l : List Wlk} {k : Nat} (h : k < l.length) (hc : plcCell m (nth .wlk l k).pos = cell) : inCell m cell l (k + 1) = inCell m cell l k ++ [nth .wlk l k] := by
 unfold inCell
 have h1 : l.take (k + 1) = l.take k ++ [nth .wlk l k] := pre_succ .wlk h
 rw [h1, List.filter_append]
 simp [cellHas, hc]
theorem inCell_no {m : PMap} {cell : Int} {l : List Wlk} {k : Nat} (h : k < l.length) (hc : ¬ plcCell m (nth .wlk l k).pos = cell) : inCell m cell l (k + 1) = inCell m cell l k := by
 unfold inCell
 have h1 : l.take (k + 1) = l.take k ++ [nth .wlk l k] := pre_succ .wlk h
 rw [h1, List.filter_append]
 simp [cellHas, hc]
def cllNew (m : PMap) (cell : Int) (l : List Wlk) : Cll := if plcOk m = true ∧ 0 ≤ cell ∧ cell < m.cells ∧ wlkAll m l = true then ⟨cell, inCell m cell l l.length, 0, [[], []], [0, 0], [0, 0]⟩ else zeroC
def stoNew (m : PMap) (cell : Int) (l : List Wlk) : Sto := ⟨0, cllNew m cell l, []⟩
def arbNew (m : PMap) : Arb := if plcOk m = true then ⟨List.replicate m.cells.toNat (-1), List.replicate m.cells.toNat 0⟩ else ⟨[], []⟩
def rowNew (m : PMap) (w : Wlk) : Row := ⟨w.id, plcCell m w.pos, false, ⟨0, 0, 0, 0, 0⟩, w.seq, w.last⟩
def gwyNew (m : PMap) (l : List Wlk) : List Row := if plcOk m = true ∧ wlkAll m l = true then l.map (rowNew m) else []
def wldBegin (m : PMap) (l : List Wlk) (servers : Int) : Wld := ⟨m, List.replicate servers.toNat ⟨true, [], []⟩, (List.range m.cells.toNat).map fun (i : Nat) => stoNew m (i : Int) l, arbNew m, gwyNew m l, [], []⟩
def wldNew (m : PMap) (l : List Wlk) (servers : Int) : Wld := if plcOk m = true ∧ wlkAll m l = true ∧ 1 ≤ servers ∧ servers ≤ 3 then wldBegin m l servers else zeroWld
theorem srt_iff (l : List Wlk) : srt l ↔ l.Pairwise fun a b => a.id < b.id := by
 rw [List.pairwise_iff_getElem]
 constructor
 ·intro h i j hi hj hij
  have := h i j hij hj
  rwa [nth_lt .wlk l i hi, nth_lt .wlk l j hj] at this
 ·intro h i j hij hj
  have hi : i < l.length := by omega
  have := h i j hi hj hij
  rwa [nth_lt .wlk l i hi, nth_lt .wlk l j hj]
theorem wlk_few {m : PMap} {l : List Wlk} (h : wlkAll m l = true) : l.length ≤ 9 := srt_len (srt_of h) fun i hi => by
 have := wlkOk_iff.1 (wlkAll_at h hi)
 exact ⟨this.1, this.2.1⟩
theorem cllNew_ok {m : PMap} {cell : Int} {l : List Wlk} (h1 : plcOk m = true) (h2 : 0 ≤ cell) (h3 : cell < m.cells) (h4 : wlkAll m l = true) : cllOk m (cllNew m cell l) = true := by
 rw [cllNew, if_pos ⟨h1, h2, h3, h4⟩, cllOk_iff]
 have hw := wlkAll_iff.1 h4
 refine ⟨fun w hm => ?_, ?_, h1, h2, h3, Int.le_refl 0, by show (0 : Int) ≤ 900; decide, rfl, rfl, rfl, fun s hs => ?_⟩
 ·simp only [inCell, List.take_length, List.mem_filter, cellHas, decide_eq_true_eq] at hm
  exact ⟨hw.1 w hm.1, hm.2⟩
 ·simp only [inCell, List.take_length]
  rw [srt_iff]
  exact ((srt_iff l).1 hw.2).filter _
 ·have hs2 : s = 0 ∨ s = 1 := by omega
  rcases hs2 with rfl | rfl <;> exact ⟨by simp [pclListOk, nth, allTo, h1], by show (0 : Int) ≤ 0; decide, by show (0 : Int) ≤ 5000; decide, fun _ => ⟨rfl, rfl⟩, fun p hp => by simp [nth] at hp⟩
theorem stoNew_ok {m : PMap} {cell : Int} {l : List Wlk} (h1 : plcOk m = true) (h2 : 0 ≤ cell) (h3 : cell < m.cells) (h4 : wlkAll m l = true) : stoOk m (stoNew m cell l) = true := by
 rw [stoOk_iff]
 exact ⟨by simp [stoNew], cllNew_ok h1 h2 h3 h4, by simp [stoNew], by simp [stoNew, foldN]⟩
theorem gwyNew_ok {m : PMap} {l : List Wlk} (h1 : plcOk m = true) (h4 : wlkAll m l = true) : gwyOk m (gwyNew m l) = true := by
 rw [gwyNew, if_pos ⟨h1, h4⟩, gwyOk, Bool.and_eq_true]
 refine ⟨h1, ?_⟩
 rw [allTo_iff]
 intro i hi
 have hi : i < l.length := by simpa using hi
 have hw := wlkAll_iff.1 h4
 have hn : ∀ j, j < l.length → nth .row (l.map (rowNew m)) j = rowNew m (nth .wlk l j) := fun j hj => by
  rw [nth_lt .row _ j (by simpa using hj), nth_lt .wlk l j hj]
  simp
 have ho := wlkOk_iff.1 (hw.1 _ (nth_mem .wlk hi))
 have hr : rowOk m (rowNew m (nth .wlk l i)) = true := by
  obtain ⟨q1, q2, q3, q4⟩ := plcCell_ne ho.2.2.1
  have q5 := plcOk_iff.1 q1
  have hp : 0 ≤ plcCell m (nth .wlk l i).pos ∧ plcCell m (nth .wlk l i).pos < m.cells := by
   rw [q4]
   exact ⟨Int.ediv_nonneg q2 (by omega), Int.ediv_lt_of_lt_mul (by omega) q3⟩
  simp only [rowOk, rowNew, decide_eq_true_eq]
  exact ⟨ho.1, ho.2.1, hp.1, hp.2, ho.2.2.2.2.2.1, ho.2.2.2.2.2.2.1, ho.2.2.2.2.2.2.2.1, ho.2.2.2.2.2.2.2.2, fun _ => by decide, fun h => by cases h⟩
 rw [gwRowAt, hn i hi, hr, Bool.true_and]
 by_cases h0 : i = 0
 ·simp [h0]
 ·have hs := hw.2 (i - 1) i (by omega) hi
  rw [hn (i - 1) (by omega)]
  simp only [rowNew]
  simp [hs]
theorem arbNew_ok {m : PMap} {v : Int} (h1 : plcOk m = true) (h2 : 1 ≤ v) (h3 : v ≤ 3) : arbOk m (arbNew m) v = true := by
 have hm := plcOk_iff.1 h1
 rw [arbNew, if_pos h1, arbOk, Bool.and_eq_true]
 refine ⟨by simp [arbHead, h1, h2, h3]; omega, ?_⟩
 rw [allTo_iff]
 intro i hi
 have hi : i < m.cells.toNat := by simp only [List.length_replicate] at hi; exact hi
 have e1 : nth .int (List.replicate m.cells.toNat (-1 : Int)) i = (-1 : Int) := by rw [nth_lt .int _ i (by simpa using hi)]; simp
 have e2 : nth .int (List.replicate m.cells.toNat (0 : Int)) i = (0 : Int) := by rw [nth_lt .int _ i (by simpa using hi)]; simp
 simp only [arbAt, e1, e2, decide_eq_true_eq]
 show (-1 : Int) ≤ -1 ∧ (-1 : Int) ≤ v - 1 ∧ (0 : Int) ≤ 0 ∧ (0 : Int) ≤ 900 ∧ True
 exact ⟨by omega, by omega, by omega, by omega, trivial⟩
theorem srvNew_ok {m : PMap} (h1 : plcOk m = true) : srvOk m ⟨true, [], []⟩ = true := by
 simp [srvOk, gstsOk, gstsOkS, srvUp, allTo, h1]
theorem wldNew_ok {m : PMap} {l : List Wlk} {v : Int} (h1 : plcOk m = true) (h4 : wlkAll m l = true) (h2 : 1 ≤ v) (h3 : v ≤ 3) : wldOk (wldNew m l v) = true := by
 rw [wldNew, if_pos ⟨h1, h4, h2, h3⟩, wldOk_iff]
 have hv : ((List.replicate v.toNat (⟨true, [], []⟩ : Srv)).length : Int) = v := by simp; omega
 have hm := plcOk_iff.1 h1
 have hst : ∀ i, i < m.cells.toNat → nth .sto ((List.range m.cells.toNat).map fun (i : Nat) => stoNew m (i : Int) l) i = stoNew m (i : Int) l := fun i hi => by
  rw [nth_lt .sto _ i (by simpa using hi)]; simp
 have hbase : ∀ i : Nat, i < m.cells.toNat → (stoNew m (i : Int) l).base.cell = (i : Int) := fun i hi => by
  simp only [stoNew]
  rw [cllNew, if_pos ⟨h1, by omega, by omega, h4⟩]
 simp only [wldBegin]
 rw [hv]
 refine ⟨arbNew_ok h1 h2 h3, ?_, gwyNew_ok h1 h4, by simp, by simp, ?_, ?_, ?_, ?_⟩
 ·rw [stosOk, Bool.and_eq_true]
  refine ⟨by simp [h1]; omega, ?_⟩
  rw [allTo_iff]
  intro i hi
  have hi : i < m.cells.toNat := by simpa using hi
  rw [stoAt, hst i hi, stoNew_ok h1 (by omega) (by omega) h4, hbase i hi]
  simp
 ·intro i hi
  have hi : i < m.cells.toNat := by simpa using hi
  rw [hst i hi]
  simp only [stoNew]
  rw [arbNew, if_pos h1]
  have e2 : nth .int (List.replicate m.cells.toNat (0 : Int)) i = (0 : Int) := by rw [nth_lt .int _ i (by simpa using hi)]; simp
  simp only [e2]
  exact Int.le_refl 0
 ·intro s hs
  rw [List.mem_replicate] at hs
  rw [hs.2]
  exact ⟨srvNew_ok h1, fun h hh => by cases hh⟩
 ·intro x hx; cases hx
 ·intro n hn; cases hn
theorem tm {a n : Int} (ha : 0 ≤ a) (hn : 1 ≤ n) : 0 ≤ a.tmod n ∧ a.tmod n < n := by
 rw [Int.tmod_eq_emod_of_nonneg ha]
 exact ⟨Int.emod_nonneg _ (by omega), Int.emod_lt_of_pos _ (by omega)⟩
theorem td {a n : Int} (ha : 0 ≤ a) (hn : 1 ≤ n) : 0 ≤ a.tdiv n ∧ a.tdiv n ≤ a := by
 rw [Int.tdiv_eq_ediv_of_nonneg ha]
 exact ⟨Int.ediv_nonneg ha (by omega), Int.ediv_le_self n ha⟩
theorem xorw {a b : Int} (ha : 0 ≤ a) (ha2 : a < 9223372036854775808) (hb : 0 ≤ b) (hb2 : b < 9223372036854775808) : 0 ≤ IntKind.i64.wrap (((BitVec.ofInt IntKind.i64.bits a ^^^ BitVec.ofInt IntKind.i64.bits b).toNat : Nat) : Int) := by
 have h1 : ∀ x : Int, 0 ≤ x → x < 9223372036854775808 → (BitVec.ofInt IntKind.i64.bits x).toNat < 2 ^ 63 := fun x h0 h2 => by
  rw [BitVec.toNat_ofInt]
  have : IntKind.i64.bits = 64 := rfl
  rw [this]
  omega
 have h2 : (BitVec.ofInt IntKind.i64.bits a ^^^ BitVec.ofInt IntKind.i64.bits b).toNat < 2 ^ 63 := by
  rw [BitVec.toNat_xor]
  exact Nat.xor_lt_two_pow (h1 a ha ha2) (h1 b hb hb2)
 rw [wrap_id (by omega) (by omega)]
 omega
theorem okByte {l : List Int} (h : OkA (.list .byte fun _ => l)) : ∀ i, i < l.length → @LE.le Int _ 0 (nth .byte l i) ∧ @LE.le Int _ (nth .byte l i) 255 := by
 cases h with
 | list _ _ _ g =>
  intro i hi
  have := g i 0 _ hi rfl
  cases this with
  | int _ _ h1 h2 => exact ⟨h1, h2⟩
theorem pick_far {L p b1 b2 n : Int} (hL : 1 ≤ L) (hp0 : 0 ≤ p) (hp : p ≤ 1000000001000) (h1 : 0 ≤ b1 ∧ b1 ≤ 255) (h2 : 0 ≤ b2 ∧ b2 ≤ 255) (hn : 1 ≤ n) (x : Int)
  (hx : x = IntKind.i64.wrap (IntKind.i64.wrap (IntKind.i64.wrap (IntKind.i64.wrap (b1 * 131) + IntKind.i64.wrap (b2 * 1117)) + IntKind.i64.wrap (p * 29)) + IntKind.i64.wrap (IntKind.i64.wrap (p.tdiv L) * 53))) :
  0 ≤ (IntKind.i64.wrap (((BitVec.ofInt IntKind.i64.bits x ^^^ BitVec.ofInt IntKind.i64.bits (IntKind.i64.wrap (x.tdiv 64))).toNat : Nat) : Int)).tmod n ∧ (IntKind.i64.wrap (((BitVec.ofInt IntKind.i64.bits x ^^^ BitVec.ofInt IntKind.i64.bits (IntKind.i64.wrap (x.tdiv 64))).toNat : Nat) : Int)).tmod n < n := by
 have hd := td hp0 hL
 generalize hdd : p.tdiv L = d at *
 rw [wrap_id (n := b1 * 131) (by omega) (by omega), wrap_id (n := b2 * 1117) (by omega) (by omega), wrap_id (n := b1 * 131 + b2 * 1117) (by omega) (by omega), wrap_id (n := p * 29) (by omega) (by omega), wrap_id (n := d) (by omega) (by omega), wrap_id (n := d * 53) (by omega) (by omega),
  wrap_id (n := b1 * 131 + b2 * 1117 + p * 29) (by omega) (by omega), wrap_id (n := b1 * 131 + b2 * 1117 + p * 29 + d * 53) (by omega) (by omega)] at hx
 have hx0 : 0 ≤ x := by omega
 have hx1 : x < 9223372036854775808 := by omega
 have hd2 := td hx0 (show (1 : Int) ≤ 64 by omega)
 rw [wrap_id (n := x.tdiv 64) (by omega) (by omega)]
 exact tm (xorw hx0 hx1 hd2.1 (by omega)) hn
theorem put_ok {m : PMap} {l : List Wlk} {w : Wlk} (h : wlkAll m l = true) (hw : wlkOk m w = true) : wlkAll m (wlkPut l w) = true := by
 rw [wlkAll_iff] at h ⊢
 refine ⟨fun x hx => ?_, put_srt h.2⟩
 rcases put_mem hx with hx | rfl
 ·exact h.1 x hx
 ·exact hw
theorem rows_few {m : PMap} {l : List Row} (h : gwyOk m l = true) : l.length ≤ 9 := by
 rw [gwyOk, Bool.and_eq_true] at h
 have ha := (allTo_iff _ _).1 h.2
 have hw : ∀ i, i < l.length → (i : Int) + 1 ≤ (nth .row l i).who := by
  intro i
  induction i with
  | zero =>
   intro hi
   have := ha 0 hi
   simp only [gwRowAt, rowOk, Bool.and_eq_true, decide_eq_true_eq] at this
   omega
  | succ i ih =>
   intro hi
   have h1 := ih (by omega)
   have := ha (i + 1) hi
   simp only [gwRowAt, Bool.and_eq_true, Bool.or_eq_true, decide_eq_true_eq, Nat.add_sub_cancel] at this
   omega
 by_cases h0 : l.length = 0
 ·omega
 ·have h1 := hw (l.length - 1) (by omega)
  have h2 := ha (l.length - 1) (by omega)
  simp only [gwRowAt, rowOk, Bool.and_eq_true, decide_eq_true_eq] at h2
  omega
def wP (w0 w : Wld) : Prop := (wldOk w0 = true → wldOk w = true) ∧ (w = w0 ∨ wldOk w = true ∨ w = zeroWld)
theorem wP_refl (w : Wld) : wP w w := ⟨fun h => h, .inl rfl⟩
theorem wP_step {w0 w : Wld} (e : Evt) (h : wP w0 w) : wP w0 (wldStep w e) := by
 by_cases hw : wldOk w = true
 ·have : wldStep w e = wStep w e := by simp [wldStep, hw]
  rw [this]
  exact ⟨fun _ => (step_ok hw).1, .inr (.inl (step_ok hw).1)⟩
 ·have : wldStep w e = zeroWld := by simp [wldStep, hw]
  rw [this]
  exact ⟨fun h0 => absurd (h.1 h0) hw, .inr (.inr rfl)⟩
theorem ok_few {w : Wld} (h : wldOk w = true) : w.rows.length ≤ 9 ∧ w.stores.length ≤ 4 ∧ 1 ≤ w.servers.length ∧ w.servers.length ≤ 3 := by
 obtain ⟨h1, h2, h3, h4⟩ := wldOk_iff.1 h
 have := arb_len h1
 exact ⟨rows_few h3, stos_few h2, by omega, by omega⟩
theorem wP_few {w0 w : Wld} (h : wP w0 w) (h1 : w0.rows.length ≤ 20) (h2 : w0.stores.length ≤ 20) : w.rows.length ≤ 20 ∧ w.stores.length ≤ 20 := by
 rcases h.2 with rfl | h | rfl
 ·exact ⟨h1, h2⟩
 ·have := ok_few h
  omega
 ·exact ⟨by decide, by decide⟩
theorem stepOk {w : Wld} (e : Evt) (h : wldOk w = true) : wldOk (wldStep w e) = true := (wP_step e (wP_refl w)).1 h
def begC (a b : Th Int) (l : Th (List Wlk)) (k q : Th Int) (p : Int) : Th Prop := fun _ => plcOk ⟨a (), b ()⟩ = true ∧ wlkAll ⟨a (), b ()⟩ (l ()) = true ∧ 0 ≤ k () ∧ k () ≤ 5 ∧ p ≤ q () ∧ q () ≤ p + 3 + 2 * (5 - k ())
theorem new_ok {a b : Int} {k x c : Int} (h : plcOk ⟨a, b⟩ = true) (h1 : 1 ≤ k) (h2 : k ≤ 5) (h3 : 0 ≤ x) (h4 : x < a * b) (h5 : 0 ≤ c) (h6 : c ≤ 99) : wlkOk ⟨a, b⟩ ⟨k, x, c, 0, 0⟩ = true := by
 rw [wlkOk_iff]
 have hp := plcOk_iff.1 h
 refine ⟨by show (1 : Int) ≤ k; omega, by show k ≤ 9; omega, ?_, h5, h6, by show (0 : Int) ≤ 0; omega, by show (0 : Int) ≤ 900; omega, by show (0 : Int) ≤ 0; omega, by show (0 : Int) ≤ 9; omega⟩
 show plcCell ⟨a, b⟩ x ≠ -1
 simp only [plcCell]
 rw [if_pos ⟨h, h3, h4⟩]
 have : 0 ≤ x / b := Int.ediv_nonneg h3 (by simp only at hp; omega)
 show x / b ≠ -1
 omega
theorem coin_in {x : Int} (h1 : 0 ≤ x) (h2 : x < 6) : @LE.le Int _ 0 (nth .int [0, 3, 10, 40, 95, 99] x.toNat) ∧ @LE.le Int _ (nth .int [0, 3, 10, 40, 95, 99] x.toNat) 99 := by
 have : x = 0 ∨ x = 1 ∨ x = 2 ∨ x = 3 ∨ x = 4 ∨ x = 5 := by omega
 rcases this with rfl | rfl | rfl | rfl | rfl | rfl <;> decide
theorem many_in {x y : Int} (h1 : 0 ≤ x) (h2 : x < 5) (h3 : 0 ≤ y) (h4 : y < 60) : @LE.le Int _ (nth .int [0, 10, 20, 40, y] x.toNat) 60 := by
 have : x = 0 ∨ x = 1 ∨ x = 2 ∨ x = 3 ∨ x = 4 := by omega
 rcases this with rfl | rfl | rfl | rfl | rfl
 ·show (0 : Int) ≤ 60; decide
 ·show (10 : Int) ≤ 60; decide
 ·show (20 : Int) ≤ 60; decide
 ·show (40 : Int) ≤ 60; decide
 ·show y ≤ 60
  omega
theorem beg_map {x y : Int} (h1 : 0 ≤ x ∧ (1 ≤ (3 : Int) → x < 3)) (h2 : 0 ≤ y ∧ (1 ≤ (2 : Int) → y < 2)) : plcOk ⟨IntKind.i64.wrap (2 + x), IntKind.i64.wrap (2 + y)⟩ = true := by
 rw [wrap_id (by omega) (by omega), wrap_id (by omega) (by omega), plcOk_iff]
 show 2 ≤ 2 + x ∧ 2 + x ≤ 4 ∧ 2 ≤ 2 + y ∧ 2 + y ≤ 8
 omega
theorem beg_put {a b k x y : Int} {l : List Wlk} (h : plcOk ⟨a, b⟩ = true) (hl : wlkAll ⟨a, b⟩ l = true) (hk : 0 < k) (hk5 : k ≤ 5) (hx : 0 ≤ x ∧ (1 ≤ IntKind.i64.wrap (a * b) → x < IntKind.i64.wrap (a * b))) (hy : 0 ≤ y ∧ (1 ≤ (6 : Int) → y < 6)) :
  wlkAll ⟨a, b⟩ (wlkPut l ⟨k, x, nth .int [0, 3, 10, 40, 95, 99] y.toNat, 0, 0⟩) = true := by
 have hm : 4 ≤ a * b ∧ a * b ≤ 32 := plc_mul h
 rw [wrap_id (by omega) (by omega)] at hx
 have hc := coin_in hy.1 (hy.2 (by omega))
 exact put_ok hl (new_ok h (by omega) hk5 hx.1 (hx.2 (by omega)) hc.1 hc.2)
end Go.Mo
