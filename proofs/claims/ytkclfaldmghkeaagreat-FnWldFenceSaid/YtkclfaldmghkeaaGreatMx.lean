/- What some ends alone need. -/
import Derived.Test.YtkclfaldmghkeaaGreatM1
import Derived.Test.YtkclfaldmghkeaaGreatM2
import Derived.Test.YtkclfaldmghkeaaGreatM3
import Derived.Test.YtkclfaldmghkeaaGreatM4
import Derived.Test.YtkclfaldmghkeaaGreatM5
import Derived.Test.YtkclfaldmghkeaaGreatM6
import Derived.Test.YtkclfaldmghkeaaGreatM7
set_option linter.unusedVariables false
set_option linter.unusedSimpArgs false
namespace Go.Mo
open Go.Sx
theorem b0W {w : Wld} {e : Evt} (h : o6 w = true) : o6 (m0 w e) = true ∧ (m0 w e).map = w.map ∧ (m0 w e).servers.length = w.servers.length := by
 have : m0 w e = u4 w e := by simp [m0, h]
 rw [this]
 have := b2Y (e := e) h
 exact ⟨this.1, this.2.2, this.2.1⟩
theorem from_step {w : Wld} (h : From w) (e : Evt) : From (m0 w e) := let ⟨l, w0, h0, hr⟩ := h; ⟨l, w0, h0, .step e hr⟩
def Ordd (w : Wld) (F : List Int) (j : Nat) : Prop := F.length = 10 ∧ ∀ k, k < 10 → @Eq Int (nth .int F k) (cntN (w.notes.take j) (k : Int))
theorem c2p (w : Wld) : Ordd w (List.replicate 10 0) 0 := by
 refine ⟨by simp, fun k hk => ?_⟩
 rw [List.take_zero, b7d, k8 .int _ k (by simpa using hk), List.getElem_replicate]
theorem c0D {w : Wld} (h : o6 w = true) {j : Nat} (hj : j < w.notes.length) : 1 ≤ (nth .note w.notes j).who ∧ (nth .note w.notes j).who ≤ 9 ∧ 1 ≤ (nth .note w.notes j).seq ∧ (nth .note w.notes j).seq ≤ 900 := by
 have := (m8.1 h).2.2.2.2.2.2.2.2 _ (n6 .note hj)
 simp only [a3q, decide_eq_true_eq] at this
 exact ⟨this.1, this.2.1, this.2.2.1, this.2.2.2.1⟩
theorem c2q {w : Wld} (h : From w) {F : List Int} {j : Nat} (hj : j < w.notes.length) (ho : Ordd w F j) :
  @Eq Int (nth .int F (nth .note w.notes j).who.toNat + 1) (nth .note w.notes j).seq ∧ Ordd w (F.set (nth .note w.notes j).who.toNat (nth .note w.notes j).seq) (j + 1) := by
 have hi := a1V h
 have hn := c0D hi.ok hj
 have hnum := hi.noted.num j hj
 have hk : (nth .note w.notes j).who.toNat < 10 := by omega
 have e := ho.2 _ hk
 have hnn : (((nth .note w.notes j).who.toNat : Nat) : Int) = (nth .note w.notes j).who := by omega
 rw [hnn] at e
 have e1 : @Eq Int (nth .int F (nth .note w.notes j).who.toNat + 1) (nth .note w.notes j).seq := by
  rw [e, hnum]
  omega
 refine ⟨e1, by rw [List.length_set]; exact ho.1, fun k hk2 => ?_⟩
 have ht : w.notes.take (j + 1) = w.notes.take j ++ [nth .note w.notes j] := G6 .note hj
 rw [ht, b7e, F8 .int (by rw [ho.1]; exact hk)]
 by_cases hkk : k = (nth .note w.notes j).who.toNat
 ·rw [if_pos hkk, if_pos (by omega), ← e1]
  subst hkk
  rw [hnn]
  exact congrArg (· + 1) e
 ·rw [if_neg hkk, if_neg (by omega), Int.add_zero]
  exact ho.2 k hk2
theorem b5q {w : Wld} (h : o6 w = true) {i : Nat} (hi : i < w.rows.length) : 1 ≤ (nth .row w.rows i).who ∧ (nth .row w.rows i).who ≤ 9 := by
 have := (a4T (m8.1 h).2.2.1 hi).1
 simp only [R9, decide_eq_true_eq] at this
 exact ⟨this.1, this.2.1⟩
theorem beg_row {w : Wld} (h : BegE w) {i : Nat} (hi : i < w.rows.length) : (nth .row w.rows i).seq = 0 := by
 obtain ⟨l, h⟩ := h
 have hm := n6 .row hi
 rw [h.rows] at hm
 obtain ⟨v, hv, e⟩ := List.mem_map.1 hm
 rw [h.rows, ← e]
 exact (h.fresh v hv).1
theorem set_rep (k : Nat) : (List.replicate 10 (0 : Int)).set k 0 = List.replicate 10 0 := by
 apply List.ext_getElem (by simp)
 intro i h1 h2
 rw [List.getElem_set, List.getElem_replicate]
 split <;> rfl
def a0M (w : Wld) (l : List Gst) : Prop := ∀ g ∈ l, GhOk w.map w.stores g ∧ S4 w.map g = true
theorem b2m (w : Wld) : a0M w [] := fun g h => by cases h
theorem goodG_srv {w : Wld} (h : From w) {l : List Gst} (hl : a0M w l) {i : Nat} (hi : i < w.servers.length) : a0M w (l ++ (nth .srv w.servers i).m9) := fun g hg => by
 rcases List.mem_append.1 hg with hg | hg
 ·exact hl g hg
 ·have hv := a1V h
  have hs := (m8.1 hv.ok).2.2.2.2.2.2.1 _ (n6 .srv hi)
  exact ⟨hv.shown.srv i hi g hg, (W8.1 (x8.1 hs.1).1).2.2.1 g hg⟩
theorem goodG_net {w : Wld} (h : From w) {l : List Gst} (hl : a0M w l) {i : Nat} (hi : i < w.net.length) (hk : (nth .msg w.net i).kind = 7) : a0M w (l ++ [(nth .msg w.net i).gst]) := fun g hg => by
 rcases List.mem_append.1 hg with hg | hg
 ·exact hl g hg
 ·simp only [List.mem_singleton] at hg
  subst hg
  have hv := a1V h
  have hm := (m8.1 hv.ok).2.2.2.2.2.2.2.1 _ (n6 .msg hi)
  refine ⟨hv.shown.net _ (n6 .msg hi) hk, ?_⟩
  have := hm.1
  simp only [u0, E0, decide_eq_true_eq] at this
  grind
theorem ghost_few {w : Wld} (h : o6 w = true) {i : Nat} (hi : i < w.servers.length) : (nth .srv w.servers i).m9.length ≤ 20 := by
 have hs := (m8.1 h).2.2.2.2.2.2.1 _ (n6 .srv hi)
 exact (W8.1 (x8.1 hs.1).1).2.1
theorem ghost_at {w : Wld} (h : From w) {l : List Gst} (hl : a0M w l) {k : Nat} (hk : k < l.length) :
  0 ≤ (nth .gst l k).src ∧ (nth .gst l k).src < w.stores.length ∧ 0 ≤ (nth .gst l k).count ∧ (nth .gst l k).count ≤ (nth .sto w.stores (nth .gst l k).src.toNat).recs.length ∧ S4 w.map (nth .gst l k) = true ∧
  o7 (y6 w.map (nth .sto w.stores (nth .gst l k).src.toNat).base ((nth .sto w.stores (nth .gst l k).src.toNat).recs.take (nth .gst l k).count.toNat)).c.wlks (nth .gst l k).wlk.id = true ∧
  A3 (y6 w.map (nth .sto w.stores (nth .gst l k).src.toNat).base ((nth .sto w.stores (nth .gst l k).src.toNat).recs.take (nth .gst l k).count.toNat)).c.wlks (nth .gst l k).wlk.id = (nth .gst l k).wlk := by
 obtain ⟨hg, ho⟩ := hl _ (n6 .gst hk)
 generalize nth .gst l k = g at *
 have hok := H0 h
 have hst := z7.1 (m8.1 hok).2.1
 have hgo := ho
 simp only [S4, decide_eq_true_eq] at hgo
 have hp := H5.1 hgo.2.2.1
 obtain ⟨q1, q2, q3, q4⟩ := I9 hp.2.2.1
 have hw := p5.1 q1
 have h0 : 0 ≤ g.src := by rw [← hgo.2.2.2.1, q4]; exact Int.ediv_nonneg q2 (by omega)
 have h1 : g.src < w.map.cells := by rw [← hgo.2.2.2.1, q4]; exact Int.ediv_lt_of_lt_mul (by omega) q3
 have hc := Z1 hok h0 h1
 have hz := hg.zero
 have hcn := hg.count
 obtain ⟨f1, _⟩ := a3x hc.2.1 (k := g.count.toNat) (by omega)
 have hm := hg.mem
 have hall : z6 w.map (r9 w.map (stAt w.stores g.src).base (stAt w.stores g.src).recs g.count.toNat).wlks = true := by
  have hs := s8.1 hc.2.1
  have hfit := a0E w.map (stAt w.stores g.src).base (stAt w.stores g.src).recs
  rw [hs.2.2.2] at hfit
  have : m4 g.count.toNat (H3 w.map (stAt w.stores g.src).base (stAt w.stores g.src).recs) = true := by
   rw [k9] at hfit ⊢
   exact fun i hi => hfit i (by omega)
  exact (n0 (a2y hs.2.1 this)).1
 have := b6i hall hm
 refine ⟨h0, by omega, hz, hcn, ho, ?_⟩
 show o7 (y6 w.map (stAt w.stores g.src).base ((stAt w.stores g.src).recs.take g.count.toNat)).c.wlks g.wlk.id = true ∧ _
 rw [f1]
 refine ⟨this.1, ?_⟩
 show A3 (y6 w.map (stAt w.stores g.src).base ((stAt w.stores g.src).recs.take g.count.toNat)).c.wlks g.wlk.id = g.wlk
 rw [f1]
 exact this.2
theorem b0P (w : Wld) : Alone w (List.replicate w.stores.length 0) 0 0 := by
 refine ⟨by simp, fun c hc => ?_⟩
 have : @Eq Int (nth .int (List.replicate w.stores.length 0) c) 0 := by rw [k8 .int _ c (by simpa using hc)]; simp
 rw [this]
 exact ⟨.inl rfl, fun h => by cases h⟩
theorem b9n {w : Wld} {A : List Int} {k j : Nat} (h : Alone w A k j) : Alone w A (k + 1) 0 := by
 refine ⟨h.len, fun c hc => ⟨(h.one c hc).1, fun he => ?_⟩⟩
 obtain ⟨k', j', h1, h2⟩ := (h.one c hc).2 he
 exact ⟨k', j', by omega, h2⟩
theorem b0d {w : Wld} (h : From w) {k j : Nat} (hk : k < w.servers.length) (hj : j < (nth .srv w.servers k).holds.length) :
  0 ≤ (x7 w k j).state.cell ∧ (x7 w k j).state.cell < w.stores.length ∧ (x7 w k j).age ≤ (nth .sto w.stores (x7 w k j).state.cell.toNat).age ∧ 0 ≤ (x7 w k j).count ∧
  (x7 w k j).count ≤ (nth .sto w.stores (x7 w k j).state.cell.toNat).recs.length ∧ ((x7 w k j).age = (nth .sto w.stores (x7 w k j).state.cell.toNat).age → (x7 w k j).count = (nth .sto w.stores (x7 w k j).state.cell.toNat).recs.length) ∧
  (y6 w.map (nth .sto w.stores (x7 w k j).state.cell.toNat).base ((nth .sto w.stores (x7 w k j).state.cell.toNat).recs.take (x7 w k j).count.toNat)).c = (x7 w k j).state ∧
  ((y6 w.map (nth .sto w.stores (x7 w k j).state.cell.toNat).base ((nth .sto w.stores (x7 w k j).state.cell.toNat).recs.take (x7 w k j).count.toNat)).n : Int) = (x7 w k j).count := by
 have hv := a1V h
 have hm : x7 w k j ∈ (nth .srv w.servers k).holds := n6 .hld hj
 have hs := (m8.1 hv.ok).2.2.2.2.2.2.1 _ (n6 .srv hk)
 have ho := (x8.1 hs.1).2.2.1 _ hm
 have hI := hv.fence.hold k hk _ hm
 generalize x7 w k j = g at *
 have hc := n0 (y0.1 ho).2.2
 have hst := z7.1 (m8.1 hv.ok).2.1
 have hcs := Z1 hv.ok hc.2.2.1 hc.2.2.2.1
 have hz := hI.zero
 have hcn := hI.count
 have hf := a3x hcs.2.1 (k := g.count.toNat) (by omega)
 refine ⟨hc.2.2.1, by omega, hI.age, hz, hcn, hI.all, ?_, ?_⟩
 ·show (y6 w.map (stAt w.stores g.state.cell).base ((stAt w.stores g.state.cell).recs.take g.count.toNat)).c = g.state
  rw [hf.1]
  exact hI.state.symm
 ·show ((y6 w.map (stAt w.stores g.state.cell).base ((stAt w.stores g.state.cell).recs.take g.count.toNat)).n : Int) = g.count
  rw [hf.2]
  omega
theorem b9m {w : Wld} {A : List Int} {k j : Nat} (h : Alone w A k j) : Alone w A k (j + 1) := by
 refine ⟨h.len, fun c hc => ⟨(h.one c hc).1, fun he => ?_⟩⟩
 obtain ⟨k', j', h1, h2⟩ := (h.one c hc).2 he
 exact ⟨k', j', by omega, h2⟩
theorem alone_add {w : Wld} (hw : From w) {A : List Int} {k j : Nat} (h : Alone w A k j) (hk : k < w.servers.length) (hj : j < (nth .srv w.servers k).holds.length) (ha : (x7 w k j).age = (nth .sto w.stores (x7 w k j).state.cell.toNat).age) :
  @Eq Int (nth .int A (x7 w k j).state.cell.toNat) 0 ∧ Alone w (A.set (x7 w k j).state.cell.toNat 1) k (j + 1) := by
 have hf := b0d hw hk hj
 have hv := a1V hw
 have hcl : (x7 w k j).state.cell.toNat < w.stores.length := by omega
 have h0 : @Eq Int (nth .int A (x7 w k j).state.cell.toNat) 0 := by
  rcases (h.one _ hcl).1 with e | e
  ·exact e
  ·exfalso
   obtain ⟨k', j', h1, h2, h3, h4, h5⟩ := (h.one _ hcl).2 e
   have hc : (x7 w k' j').state.cell = (x7 w k j).state.cell := by omega
   have t1 : Tok w k' (x7 w k j).state.cell (x7 w k j).age := .hold h2 _ (n6 .hld h3) hc (by show (x7 w k' j').age = _; rw [h5, ha])
   have t2 : Tok w k (x7 w k j).state.cell (x7 w k j).age := .hold hk _ (n6 .hld hj) rfl rfl
   have hkk := hv.fence.one _ _ _ _ t1 t2
   subst hkk
   have hs := (m8.1 hv.ok).2.2.2.2.2.2.1 _ (n6 .srv hk)
   have hsort := (x8.1 hs.1).2.2.2
   have hlt : j' < j := by omega
   have := List.pairwise_iff_getElem.1 hsort j' j h3 hj hlt
   unfold x7 at hc
   rw [k8 .hld _ _ h3, k8 .hld _ _ hj] at hc
   omega
 refine ⟨h0, by rw [List.length_set]; exact h.len, fun c hc => ?_⟩
 rw [F8 .int (by rw [h.len]; exact hcl)]
 by_cases he : c = (x7 w k j).state.cell.toNat
 ·rw [if_pos he]
  refine ⟨.inr rfl, fun _ => ⟨k, j, .inr ⟨rfl, by omega⟩, hk, hj, by omega, by rw [he]; exact ha⟩⟩
 ·rw [if_neg he]
  refine ⟨(h.one c hc).1, fun h1 => ?_⟩
  obtain ⟨k', j', g1, g2⟩ := (h.one c hc).2 h1
  exact ⟨k', j', by omega, g2⟩
theorem alone_le {w : Wld} {A : List Int} {k j c : Nat} (h : Alone w A k j) (hc : c < w.stores.length) : @LE.le Int _ 0 (nth .int A c) ∧ @LE.le Int _ (nth .int A c) 1 := by
 rcases (h.one c hc).1 with e | e <;> rw [e] <;> decide
theorem age_le {w : Wld} (h : o6 w = true) {c : Nat} (hc : c < w.stores.length) : @LE.le Int _ (nth .sto w.stores c).age (nth .int w.table.ages c) := (m8.1 h).2.2.2.2.2.1 c hc
end Go.Mo
