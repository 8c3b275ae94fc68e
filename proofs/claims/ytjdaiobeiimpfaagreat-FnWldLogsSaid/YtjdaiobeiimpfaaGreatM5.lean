/-
  Plain laws of the whole: parcels: what a record does to a cell's sides.
-/
import Derived.Test.YtjdaiobeiimpfaaGreatM4
import Derived.Test.YtjdaiobeiimpfaaGreatM3
import Derived.Test.YtjdaiobeiimpfaaGreatM1
set_option linter.unusedVariables false
set_option linter.unusedSimpArgs false
namespace Go.Mo
open Go.Sx
theorem do_sides {m : PMap} {c : Cll} {o : Ord} (hc : cllOk m c = true) (ho : ordOk o = true) {s : Nat} (hs : s < 2) :
  (cllDo m c o).c.ins = c.ins ∧ ((nth .pcls (cllDo m c o).c.outs s = nth .pcls c.outs s ∧ @Eq Int (nth .int (cllDo m c o).c.next s) (nth .int c.next s)) ∨
   ∃ p : Pcl, nth .pcls (cllDo m c o).c.outs s = nth .pcls c.outs s ++ [p] ∧ @Eq Int p.n (nth .int c.next s) ∧ @Eq Int (nth .int (cllDo m c o).c.next s) (nth .int c.next s + 1)) := by
 have hf := cllOk_facts hc
 have hoi := ordOk_iff.1 ho
 have hdst : o.kind = 1 ∨ o.kind = 5 → o.dest.toNat < 2 := fun h => by omega
 clear hoi
 have triv : c.ins = c.ins ∧ ((nth .pcls c.outs s = nth .pcls c.outs s ∧ @Eq Int (nth .int c.next s) (nth .int c.next s)) ∨ ∃ p : Pcl, nth .pcls c.outs s = nth .pcls c.outs s ++ [p] ∧ @Eq Int p.n (nth .int c.next s) ∧ @Eq Int (nth .int c.next s) (nth .int c.next s + 1)) := ⟨rfl, .inl ⟨rfl, rfl⟩⟩
 have send : ∀ (d : Nat) (q : Pcl), d < 2 → ((nth .pcls (sendOuts c d q) s = nth .pcls c.outs s ∧ @Eq Int (nth .int (sendNext c d) s) (nth .int c.next s)) ∨
   ∃ p : Pcl, nth .pcls (sendOuts c d q) s = nth .pcls c.outs s ++ [p] ∧ @Eq Int p.n (nth .int c.next s) ∧ @Eq Int (nth .int (sendNext c d) s) (nth .int c.next s + 1)) := fun d q hd => by
  unfold sendOuts sendNext
  by_cases he : d = s
  ·subst he
   right
   exact ⟨_, nth_set_eq .pcls (by omega), rfl, nth_set_eq .int (by omega)⟩
  ·left
   exact ⟨nth_set_ne .pcls he, nth_set_ne .int he⟩
 unfold cllDo
 split
 ·exact triv
 simp only
 split
 ·exact triv
 split
 ·exact triv
 unfold doKind
 split
 ·unfold doStep
  split
  ·exact triv
  split
  ·exact triv
  split
  ·exact triv
  exact ⟨rfl, send _ _ (hdst (.inl (by assumption)))⟩
 split
 ·unfold doGive
  split
  ·exact triv
  split
  ·exact triv
  split
  ·exact triv
  exact triv
 split
 ·unfold doDrop
  split
  ·exact triv
  split
  ·exact triv
  exact triv
 split
 ·unfold doPick
  split
  ·exact triv
  split
  ·exact triv
  exact triv
 split
 ·unfold doThrow
  split
  ·exact triv
  split
  ·exact triv
  split
  ·exact triv
  exact ⟨rfl, send _ _ (hdst (.inr (by assumption)))⟩
 ·exact triv
theorem recv_sides {m : PMap} {c : Cll} {d : Nat} {p : Pcl} (h : (cllRecv m c d p).ok = true) : (cllRecv m c d p).c.outs = c.outs ∧ (cllRecv m c d p).c.next = c.next ∧ (cllRecv m c d p).c.ins = insNext c d ∧ @Eq Int p.n (nth .int c.ins d) := by
 unfold cllRecv at h ⊢
 split at h
 ·cases h
 rename_i h1
 rw [if_neg h1]
 have hn : @Eq Int p.n (nth .int c.ins d) := by
  rcases Decidable.em (p.n = nth .int c.ins d) with h2 | h2
  ·exact h2
  ·exact absurd (.inl h2) h1
 split at h
 ·rw [if_pos (by assumption)]
  exact ⟨rfl, rfl, rfl, hn⟩
 ·rename_i h2
  rw [if_neg h2]
  split at h
  ·cases h
  ·rename_i h3
   rw [if_neg h3]
   exact ⟨rfl, rfl, rfl, hn⟩
theorem rel_sides {c : Cll} {d : Nat} {n : Int} (h : (cllRel c d n).ok = true) : (cllRel c d n).c.outs = relOuts c d n ∧ (cllRel c d n).c.next = c.next ∧ (cllRel c d n).c.ins = c.ins ∧ @LE.le Int _ n (nth .int c.next d) ∧ @LT.lt Int _ (nth .int c.next d - (nth .pcls c.outs d).length) n := by
 unfold cllRel at h ⊢
 split at h
 ·cases h
 ·rename_i h1
  rw [if_neg h1]
  refine ⟨rfl, rfl, rfl, ?_, ?_⟩
  ·exact Int.not_lt.1 fun hh => h1 (.inl hh)
  ·exact Int.not_le.1 fun hh => h1 (.inr hh)
theorem apply_do {m : PMap} {c : Cll} {r : Rec} (hk : r.kind = 1) (h : (cllApply m c r).ok = true) : cllFresh c r.ord = true ∧ (cllApply m c r).c = (cllDo m c r.ord).c ∧ (cllApply m c r).code = (cllDo m c r.ord).code := by
 unfold cllApply at h ⊢
 rw [if_pos hk] at h ⊢
 split at h
 ·rename_i hf
  rw [if_pos hf]
  exact ⟨hf, rfl, rfl⟩
 ·cases h
theorem apply_in {m : PMap} {c : Cll} {r : Rec} (hk : r.kind = 2) (h : (cllApply m c r).ok = true) : plcSide m c.cell r.side ≠ -1 ∧ (cllRecv m c r.side.toNat r.pcl).ok = true ∧ (cllApply m c r).c = (cllRecv m c r.side.toNat r.pcl).c := by
 unfold cllApply at h ⊢
 rw [if_neg (show ¬ r.kind = 1 by omega)] at h ⊢
 by_cases hs : plcSide m c.cell r.side = -1
 ·rw [if_pos hs] at h
  cases h
 ·rw [if_neg hs] at h ⊢
  rw [if_pos hk] at h ⊢
  exact ⟨hs, h, rfl⟩
theorem apply_ack {m : PMap} {c : Cll} {r : Rec} (hk : r.kind = 3) (h : (cllApply m c r).ok = true) : plcSide m c.cell r.side ≠ -1 ∧ (cllRel c r.side.toNat r.n).ok = true ∧ (cllApply m c r).c = (cllRel c r.side.toNat r.n).c := by
 unfold cllApply at h ⊢
 rw [if_neg (show ¬ r.kind = 1 by omega)] at h ⊢
 by_cases hs : plcSide m c.cell r.side = -1
 ·rw [if_pos hs] at h
  cases h
 ·rw [if_neg hs] at h ⊢
  rw [if_neg (show ¬ r.kind = 2 by omega)] at h ⊢
  exact ⟨hs, h, rfl⟩
theorem log_kind {m : PMap} {r : Rec} (h : logOk m r = true) : (r.kind = 1 ∧ ordOk r.ord = true) ∨ (r.kind = 2 ∧ (r.side = 0 ∨ r.side = 1) ∧ pclOk m r.pcl = true) ∨ (r.kind = 3 ∧ (r.side = 0 ∨ r.side = 1)) := by
 simp only [logOk, decide_eq_true_eq] at h
 obtain ⟨_, h2, h3⟩ := h
 rw [recFormed_iff] at h2
 rcases h2 with h2 | h2 | h2
 ·exact .inl ⟨h2.1, h2.2.1⟩
 ·exact .inr (.inl ⟨h2.1, h2.2.1, h3 h2.1⟩)
 ·exact .inr (.inr ⟨h2.1, h2.2.1⟩)
theorem apply_no {m : PMap} {c : Cll} {r : Rec} (h : (cllApply m c r).ok = false) : (cllApply m c r).c = c := by
 unfold cllApply at h ⊢
 by_cases k1 : r.kind = 1
 ·rw [if_pos k1] at h ⊢
  by_cases hf : cllFresh c r.ord = true
  ·rw [if_pos hf] at h
   cases h
  ·rw [if_neg hf]
 ·rw [if_neg k1] at h ⊢
  by_cases hs : plcSide m c.cell r.side = -1
  ·rw [if_pos hs]
  ·rw [if_neg hs] at h ⊢
   by_cases k2 : r.kind = 2
   ·rw [if_pos k2] at h ⊢
    exact recv_no h
   ·rw [if_neg k2] at h ⊢
    exact rel_no h
theorem apply_ins {m : PMap} {c : Cll} {r : Rec} (hc : cllOk m c = true) (hr : logOk m r = true) {s : Nat} (hs : s < 2) : @LE.le Int _ (nth .int c.ins s) (nth .int (cllApply m c r).c.ins s) := by
 have hf := cllOk_facts hc
 cases hok : (cllApply m c r).ok with
 | false => rw [apply_no hok]; exact Int.le_refl _
 | true =>
  rcases log_kind hr with ⟨hk, ho⟩ | ⟨hk, hsd, hp⟩ | ⟨hk, hsd⟩
  ·rw [(apply_do hk hok).2.1, (do_sides hc ho hs).1]
   exact Int.le_refl _
  ·obtain ⟨h1, h2, h3⟩ := apply_in hk hok
   rw [h3, (recv_sides h2).2.2.1]
   unfold insNext
   by_cases he : r.side.toNat = s
   ·rw [he, nth_set_eq .int (by omega)]
    show @LE.le Int _ _ (_ + 1)
    generalize (nth .int c.ins s : Int) = a
    omega
   ·rw [nth_set_ne .int he]
    exact Int.le_refl _
  ·obtain ⟨h1, h2, h3⟩ := apply_ack hk hok
   rw [h3, (rel_sides h2).2.2.1]
   exact Int.le_refl _
def cX (m : PMap) (st : List Sto) (c : Int) : Cll := stoState m (stAt st c)
def inX (m : PMap) (st : List Sto) (c s : Int) : Int := nth .int (cX m st c).ins s.toNat
def nxX (m : PMap) (st : List Sto) (c s : Int) : Int := nth .int (cX m st c).next s.toNat
def ouX (m : PMap) (st : List Sto) (c s : Int) : List Pcl := nth .pcls (cX m st c).outs s.toNat
def pfX (m : PMap) (st : List Sto) (c : Int) (k : Nat) : Cll := foldTo m (stAt st c).base (stAt st c).recs k
structure Wr (m : PMap) (st st' : List Sto) (d : Int) (r : Rec) : Prop where
 zero : 0 ≤ d
 lt : d.toNat < st.length
 ok : stoOk m (stAt st d) = true
 cell : (stAt st d).base.cell = d
 is : ∃ a, st' = st.set d.toNat ⟨a, (stAt st d).base, (stAt st d).recs ++ [r]⟩
 log : logOk m r = true
 fits : (cllApply m (cX m st d) r).ok = true
theorem Wr.at {m : PMap} {st st' : List Sto} {d : Int} {r : Rec} (h : Wr m st st' d r) : (stAt st' d).base = (stAt st d).base ∧ (stAt st' d).recs = (stAt st d).recs ++ [r] := by
 obtain ⟨a, e⟩ := h.is
 rw [e, sto_set h.lt, if_pos rfl]
 exact ⟨rfl, rfl⟩
theorem Wr.off {m : PMap} {st st' : List Sto} {d : Int} {r : Rec} (h : Wr m st st' d r) {c : Int} (hc : c.toNat ≠ d.toNat) : stAt st' c = stAt st c := by
 obtain ⟨a, e⟩ := h.is
 rw [e, sto_set h.lt, if_neg hc]
theorem Wr.self {m : PMap} {st st' : List Sto} {d : Int} {r : Rec} (h : Wr m st st' d r) : cX m st' d = (cllApply m (cX m st d) r).c := by
 have hh := stoOk_iff.1 h.ok
 unfold cX stoState
 rw [h.at.1, h.at.2]
 exact foldC_app hh.2.2.2 h.log h.fits
theorem Wr.other {m : PMap} {st st' : List Sto} {d : Int} {r : Rec} (h : Wr m st st' d r) {c : Int} (hc : c.toNat ≠ d.toNat) : cX m st' c = cX m st c := by
 unfold cX
 rw [h.off hc]
theorem Wr.cok {m : PMap} {st st' : List Sto} {d : Int} {r : Rec} (h : Wr m st st' d r) : cllOk m (cX m st d) = true ∧ (cX m st d).cell = d := ⟨state_ok h.ok, by unfold cX; rw [state_cell, h.cell]⟩
theorem Wr.grow {m : PMap} {st st' : List Sto} {d : Int} {r : Rec} (h : Wr m st st' d r) : Grow m st st' := by
 obtain ⟨a, e⟩ := h.is
 rw [e]
 refine ⟨by simp, fun c => ?_, fun c => ?_⟩
 ·rw [sto_set h.lt]
  split
  ·rename_i hh
   unfold stAt
   rw [hh]
  ·rfl
 ·rw [sto_set h.lt]
  split
  ·rename_i hh
   refine ⟨[r], ?_⟩
   unfold stAt
   rw [hh]
  ·exact ⟨[], by simp⟩
structure Lsame (st st' : List Sto) : Prop where
 len : st'.length = st.length
 same : ∀ c : Int, (stAt st' c).base = (stAt st c).base ∧ (stAt st' c).recs = (stAt st c).recs
theorem Lsame.refl (st : List Sto) : Lsame st st := ⟨rfl, fun _ => ⟨rfl, rfl⟩⟩
theorem Lsame.cX {m : PMap} {st st' : List Sto} (h : Lsame st st') (c : Int) : cX m st' c = cX m st c := by
 unfold Mo.cX stoState
 rw [(h.same c).1, (h.same c).2]
inductive Wrote (m : PMap) (s : Srv) (st st' : List Sto) (x : Msg) : Prop
 | no (h : Lsame st st')
 | yes (h : Wr m st st' x.cell (recOf x)) (hk : x.kind = 2 ∨ x.kind = 5 ∨ x.kind = 6) (hh : srvHas s x.cell = true) (hs : (srvHold s x.cell).state = cX m st x.cell)
   (hf : x.kind = 2 → wlkHas (cX m st x.cell).wlks x.ord.who = true ∧ (wlkFind (cX m st x.cell).wlks x.ord.who).seq < x.ord.seq)
def Sent (m : PMap) (st : List Sto) (c s : Int) (p : Pcl) : Prop := p.n < inX m st (plcSide m c s) (1 - s) ∨ p ∈ ouX m st c s
structure Mail (w : Wld) : Prop where
 seq : ∀ c s, plcSide w.map c s ≠ -1 → inX w.map w.stores (plcSide w.map c s) (1 - s) ≤ nxX w.map w.stores c s ∧ nxX w.map w.stores c s - (ouX w.map w.stores c s).length ≤ inX w.map w.stores (plcSide w.map c s) (1 - s)
 old : ∀ c s, plcSide w.map c s ≠ -1 → ∀ k, k ≤ (stAt w.stores c).recs.length → ∀ p ∈ nth .pcls (pfX w.map w.stores c k).outs s.toNat, Sent w.map w.stores c s p
 pcl : ∀ x ∈ w.net, x.kind = 5 → Sent w.map w.stores (plcSide w.map x.cell x.side) (1 - x.side) x.pcl
 got : ∀ x ∈ w.net, x.kind = 6 → x.n ≤ inX w.map w.stores (plcSide w.map x.cell x.side) (1 - x.side)
theorem Lsame.in {m : PMap} {st st' : List Sto} (h : Lsame st st') (c s : Int) : inX m st' c s = inX m st c s := by unfold inX; rw [h.cX]
theorem Lsame.ou {m : PMap} {st st' : List Sto} (h : Lsame st st') (c s : Int) : ouX m st' c s = ouX m st c s := by unfold ouX; rw [h.cX]
theorem Lsame.sent {m : PMap} {st st' : List Sto} (h : Lsame st st') {c s : Int} {p : Pcl} (hp : Sent m st c s p) : Sent m st' c s p := by
 unfold Sent
 rw [h.in, h.ou]
 exact hp
theorem side_two {m : PMap} {c s : Int} (h : plcSide m c s ≠ -1) : s.toNat < 2 ∧ (1 - s).toNat < 2 ∧ 0 ≤ s ∧ s ≤ 1 := by
 have := (side_back h).1
 omega
theorem side_far {m : PMap} {c s : Int} (h : plcSide m c s ≠ -1) : (plcSide m c s).toNat ≠ c.toNat := by
 have := side_back h
 omega
theorem Wr.ins {m : PMap} {st st' : List Sto} {d : Int} {r : Rec} (h : Wr m st st' d r) (c : Int) {s : Int} (hs : s.toNat < 2) : inX m st c s ≤ inX m st' c s := by
 by_cases hc : c.toNat = d.toNat
 ·have e : cX m st c = cX m st d := by unfold cX stAt; rw [hc]
  have e' : cX m st' c = cX m st' d := by unfold cX stAt; rw [hc]
  unfold inX
  rw [e, e', h.self]
  exact apply_ins h.cok.1 h.log hs
 ·unfold inX
  rw [h.other hc]
  exact Int.le_refl _
theorem Wr.sent {m : PMap} {st st' : List Sto} {d : Int} {r : Rec} (h : Wr m st st' d r) (hack : r.kind = 3 → r.n ≤ inX m st (plcSide m d r.side) (1 - r.side)) {c s : Int} (hs : plcSide m c s ≠ -1) {p : Pcl} (hp : Sent m st c s p) : Sent m st' c s p := by
 have h2 := side_two hs
 have hmono := h.ins (plcSide m c s) (s := 1 - s) h2.2.1
 rcases hp with hp | hp
 ·exact .inl (Int.lt_of_lt_of_le hp hmono)
 ·by_cases hc : c.toNat = d.toNat
  ·have hcd : c = d := by
    have := side_back hs
    have := h.zero
    omega
   subst hcd
   have hok := h.fits
   have hcf := cllOk_facts h.cok.1
   unfold ouX at hp
   rcases log_kind h.log with ⟨hk, ho⟩ | ⟨hk, hsd, hpo⟩ | ⟨hk, hsd⟩
   ·right
    unfold ouX
    rw [h.self, (apply_do hk hok).2.1]
    rcases (do_sides (m := m) h.cok.1 ho h2.1).2 with ⟨e, _⟩ | ⟨q, e, _⟩
    ·rw [e]; exact hp
    ·rw [e]; exact List.mem_append_left _ hp
   ·right
    unfold ouX
    obtain ⟨g1, g2, g3⟩ := apply_in hk hok
    rw [h.self, g3, (recv_sides g2).1]
    exact hp
   ·obtain ⟨g1, g2, g3⟩ := apply_ack hk hok
    by_cases he : r.side.toNat = s.toNat
    ·have hes : r.side = s := by omega
     have hn := hack hk
     rw [hes] at hn
     by_cases hpn : r.n ≤ p.n
     ·right
      unfold ouX
      rw [h.self, g3, (rel_sides g2).1]
      unfold relOuts
      rw [he, nth_set_eq .pcls (by omega)]
      exact List.mem_filter.2 ⟨hp, by simpa using hpn⟩
     ·left
      omega
    ·right
     unfold ouX
     rw [h.self, g3, (rel_sides g2).1]
     unfold relOuts
     rw [nth_set_ne .pcls he]
     exact hp
  ·right
   unfold ouX
   rw [h.other hc]
   exact hp
theorem pcl_num {m : PMap} {l : List Pcl} {n : Int} (h : pclListOk m l n = true) {i : Nat} (hi : i < l.length) : (nth .pcl l i).n = n - l.length + i := by
 simp only [pclListOk, Bool.and_eq_true] at h
 have := (allTo_iff _ _).1 h.2 i hi
 simp only [pclAt, Bool.and_eq_true, decide_eq_true_eq] at this
 exact this.2
theorem Wr.seq {m : PMap} {st st' : List Sto} {d : Int} {r : Rec} (h : Wr m st st' d r) (hack : r.kind = 3 → r.n ≤ inX m st (plcSide m d r.side) (1 - r.side)) (hin : r.kind = 2 → Sent m st (plcSide m d r.side) (1 - r.side) r.pcl)
  (hall : ∀ c : Int, 0 ≤ c → c < m.cells → cllOk m (cX m st c) = true)
  {c s : Int} (hs : plcSide m c s ≠ -1) (hq : inX m st (plcSide m c s) (1 - s) ≤ nxX m st c s ∧ nxX m st c s - (ouX m st c s).length ≤ inX m st (plcSide m c s) (1 - s)) :
  inX m st' (plcSide m c s) (1 - s) ≤ nxX m st' c s ∧ nxX m st' c s - (ouX m st' c s).length ≤ inX m st' (plcSide m c s) (1 - s) := by
 have h2 := side_two hs
 have hb := side_back hs
 have hfar := side_far hs
 have hok := h.fits
 have hcf := cllOk_facts h.cok.1
 by_cases hc : c.toNat = d.toNat
 ·have hcd : c = d := by have := h.zero; omega
  subst hcd
  have e1 : inX m st' (plcSide m c s) (1 - s) = inX m st (plcSide m c s) (1 - s) := by unfold inX; rw [h.other hfar]
  rw [e1]
  unfold nxX ouX at hq ⊢
  rw [h.self]
  rcases log_kind h.log with ⟨hk, ho⟩ | ⟨hk, hsd, hpo⟩ | ⟨hk, hsd⟩
  ·rw [(apply_do hk hok).2.1]
   rcases (do_sides (m := m) h.cok.1 ho h2.1).2 with ⟨e, e'⟩ | ⟨q, e, _, e'⟩
   ·rw [e, e']; exact hq
   ·rw [e, e', List.length_append, List.length_singleton]
    generalize (nth .int (cX m st c).next s.toNat : Int) = N at *
    omega
  ·obtain ⟨g1, g2, g3⟩ := apply_in hk hok
   rw [g3, (recv_sides g2).1, (recv_sides g2).2.1]
   exact hq
  ·obtain ⟨g1, g2, g3⟩ := apply_ack hk hok
   obtain ⟨r1, r2, r3, r4, r5⟩ := rel_sides g2
   rw [g3, r1, r2]
   unfold relOuts
   by_cases he : r.side.toNat = s.toNat
   ·have hes : r.side = s := by omega
    have hn := hack hk
    rw [hes] at hn
    rw [he] at r4 r5 ⊢
    rw [nth_set_eq .pcls (by omega)]
    have hl := (cllOk_side h.cok.1 h2.1).2.2.2
    have hd := pclFrom_drop (x := r.n) hl (by
     generalize (nth .int (cX m st c).next s.toNat : Int) = N at *
     omega)
    rw [hd, List.length_drop]
    refine ⟨hq.1, ?_⟩
    generalize (nth .int (cX m st c).next s.toNat : Int) = N at *
    omega
   ·rw [nth_set_ne .pcls he]
    exact hq
 ·have e1 : nxX m st' c s = nxX m st c s := by unfold nxX; rw [h.other hc]
  have e2 : ouX m st' c s = ouX m st c s := by unfold ouX; rw [h.other hc]
  rw [e1, e2]
  by_cases hc2 : (plcSide m c s).toNat = d.toNat
  ·have hcd : plcSide m c s = d := by have := h.zero; omega
   rw [hcd] at hq ⊢
   unfold inX at hq ⊢
   rw [h.self]
   rcases log_kind h.log with ⟨hk, ho⟩ | ⟨hk, hsd, hpo⟩ | ⟨hk, hsd⟩
   ·rw [(apply_do hk hok).2.1, (do_sides (m := m) h.cok.1 ho h2.2.1).1]
    exact hq
   ·obtain ⟨g1, g2, g3⟩ := apply_in hk hok
    obtain ⟨r1, r2, r3, r4⟩ := recv_sides g2
    rw [g3, r3]
    unfold insNext
    by_cases he : r.side.toNat = (1 - s).toNat
    ·have hes : r.side = 1 - s := by omega
     rw [he] at r4 ⊢
     rw [nth_set_eq .int (by omega)]
     have hS := hin hk
     rw [hes, ← hcd, hb.2.2.2.2.2.2.1] at hS
     have hcs : 1 - (1 - s) = s := by omega
     rw [hcs] at hS
     unfold Sent at hS
     have hp : r.pcl ∈ ouX m st c s := by
      rcases hS with h3 | h3
      ·exfalso
       rw [hcd] at h3
       unfold inX at h3
       generalize (nth .int (cX m st d).ins (1 - s).toNat : Int) = I at *
       omega
      ·exact h3
     have hl := (cllOk_side (hall c hb.2.2.1 hb.2.2.2.1) h2.1).2.2.2
     unfold ouX at hp
     obtain ⟨i, hi, he2⟩ := nth_of_mem .pcl hp
     have hlt := pcl_num hl hi
     rw [he2] at hlt
     unfold nxX ouX at hq ⊢
     show @LE.le Int _ (_ + 1) _ ∧ @LE.le Int _ _ (_ + 1)
     generalize (nth .int (cX m st d).ins (1 - s).toNat : Int) = I at *
     generalize (nth .int (cX m st c).next s.toNat : Int) = N at *
     omega
    ·rw [nth_set_ne .int he]
     exact hq
   ·obtain ⟨g1, g2, g3⟩ := apply_ack hk hok
    rw [g3, (rel_sides g2).2.2.1]
    exact hq
  ·have e3 : inX m st' (plcSide m c s) (1 - s) = inX m st (plcSide m c s) (1 - s) := by unfold inX; rw [h.other hc2]
   rw [e3]
   exact hq
theorem cells_ok {w : Wld} (hok : wldOk w = true) {c : Int} (h0 : 0 ≤ c) (h1 : c < w.map.cells) : c.toNat < w.stores.length ∧ stoOk w.map (stAt w.stores c) = true ∧ (stAt w.stores c).base.cell = c ∧ cllOk w.map (cX w.map w.stores c) = true := by
 obtain ⟨_, h2, _⟩ := wldOk_iff.1 hok
 obtain ⟨_, g2, g3⟩ := stosOk_iff.1 h2
 have hl : c.toNat < w.stores.length := by omega
 have := g3 _ hl
 exact ⟨hl, this.1, by unfold stAt; rw [this.2]; omega, state_ok this.1⟩
def cntN (l : List Note) (who : Int) : Int := ((l.filter fun n => decide (n.who = who)).length : Int)
structure Noted (f : Int → Int) (w : Wld) : Prop where
 num : ∀ i, i < w.notes.length → (nth .note w.notes i).seq = f (nth .note w.notes i).who + 1 + cntN (w.notes.take i) (nth .note w.notes i).who
 row : w.notes.length < 150 → ∀ i, i < w.rows.length → (nth .row w.rows i).seq = f (nth .row w.rows i).who + cntN w.notes (nth .row w.rows i).who
structure Beg (l : List Wlk) (w : Wld) : Prop where
 ok : wldOk w = true
 all : wlkAll w.map l = true
 fresh : ∀ v ∈ l, v.seq = 0 ∧ v.last = 0
 few : l.length ≤ 5
 net : w.net = []
 notes : w.notes = []
 rows : w.rows = l.map (rowNew w.map)
 recs : ∀ c : Int, 0 ≤ c → c < w.map.cells → (stAt w.stores c).recs = [] ∧ (stAt w.stores c).base = cllNew w.map c l
 ghosts : ∀ i, i < w.servers.length → (nth .srv w.servers i).ghosts = []
 fence : Fence w
inductive Ran (w0 : Wld) : Wld → Prop
 | refl : Ran w0 w0
 | step {w : Wld} (e : Evt) (h : Ran w0 w) : Ran w0 (wldStep w e)
theorem side_in {m : PMap} {c s : Int} (h : plcSide m c s ≠ -1) : 0 ≤ c ∧ c < m.cells ∧ 0 ≤ plcSide m c s ∧ plcSide m c s < m.cells := by
 unfold plcSide at h ⊢
 grind
structure Inv (f : Int → Int) (w : Wld) : Prop where
 ok : wldOk w = true
 fence : Fence w
 shown : Shown w
 mail : Mail w
 noted : Noted f w
def ahO (w x : OW) : Bool := decide (x.wlk.id ≤ w.wlk.id)
def putO (l : List OW) (w : OW) : List OW := l.takeWhile (ahO w) ++ w :: l.dropWhile (ahO w)
def sortO (l : List OW) : List OW := l.foldl putO []
def oid (x : OW) : Int := x.wlk.id
def sumL {α : Type} (f : α → Int) (l : List α) : Int := (l.map f).sum
def sumK {α : Type} (f : α → Int) (l : List α) (k : Nat) : Int := sumL f (l.take k)
theorem sumL_app {α : Type} (f : α → Int) (l r : List α) : sumL f (l ++ r) = sumL f l + sumL f r := by simp [sumL]
theorem sumL_one {α : Type} (f : α → Int) (x : α) : sumL f [x] = f x := by simp [sumL]
theorem sumK_zero {α : Type} (f : α → Int) (l : List α) : sumK f l 0 = 0 := by simp [sumK, sumL]
theorem sumK_succ (t : RT) (f : t.ty → Int) {l : List t.ty} {k : Nat} (h : k < l.length) : sumK f l (k + 1) = sumK f l k + f (nth t l k) := by
 unfold sumK
 rw [take_snoc t l k h, sumL_app, sumL_one]
theorem sumK_all {α : Type} (f : α → Int) {l : List α} {k : Nat} (h : k = l.length) : sumK f l k = sumL f l := by subst h; simp [sumK]
def fl (m : PMap) (st : List Sto) (c s : Int) : List Pcl := if plcSide m c s = -1 then [] else pclFrom (ouX m st c s) (inX m st (plcSide m c s) (1 - s))
def isWp (p : Pcl) : Bool := decide (p.kind = 1)
def flyO (l : List Pcl) : List OW := (l.filter isWp).map fun p => ⟨p.wlk, false⟩
def hereO (l : List Wlk) : List OW := l.map fun w => ⟨w, true⟩
def cellsN (m : PMap) : List Nat := List.range m.cells.toNat
def edgesN (m : PMap) : List (Nat × Nat) := (cellsN m).flatMap fun c => [(c, 0), (c, 1)]
def allO (m : PMap) (st : List Sto) : List OW := (cellsN m).flatMap (fun (c : Nat) => hereO (cX m st (c : Int)).wlks) ++ (edgesN m).flatMap fun e => flyO (fl m st (e.1 : Int) (e.2 : Int))
def cC (p : Pcl) : Int := if p.kind = 1 then 0 else p.coins
def sumC (l : List Pcl) : Int := sumL cC l
def airN (m : PMap) (st : List Sto) (d s : Int) : Int := if plcSide m d s = -1 then 0 else sumC (fl m st (plcSide m d s) (1 - s))
def oneSt (m : PMap) (st : List Sto) : One := ⟨m, sortO (allO m st), (cellsN m).map fun (c : Nat) => (cX m st (c : Int)).ground, (cellsN m).map fun (c : Nat) => [airN m st (c : Int) 0, airN m st (c : Int) 1]⟩
section
variable {m : PMap} {st st' : List Sto} {d : Int} {r : Rec}
theorem Wr.far (h : Wr m st st' d r) {c : Int} (h0 : 0 ≤ c) (hc : c ≠ d) : cX m st' c = cX m st c := h.other (by have := h.zero; omega)
end
end Go.Mo
