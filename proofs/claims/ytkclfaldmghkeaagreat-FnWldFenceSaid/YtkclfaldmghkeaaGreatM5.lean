/-
  Plain laws of the whole: parcels: what a record does to a cell's sides.
-/
import Derived.Test.YtkclfaldmghkeaaGreatM4
import Derived.Test.YtkclfaldmghkeaaGreatM1
set_option linter.unusedVariables false
set_option linter.unusedSimpArgs false
namespace Go.Mo
open Go.Sx
theorem a3C {m : PMap} {c : Cll} {o : Ord} (hc : r7 m c = true) (ho : K6 o = true) {s : Nat} (hs : s < 2) :
  (F4 m c o).c.ins = c.ins ∧ ((nth .pcls (F4 m c o).c.outs s = nth .pcls c.outs s ∧ @Eq Int (nth .int (F4 m c o).c.next s) (nth .int c.next s)) ∨
   ∃ p : Pcl, nth .pcls (F4 m c o).c.outs s = nth .pcls c.outs s ++ [p] ∧ @Eq Int p.n (nth .int c.next s) ∧ @Eq Int (nth .int (F4 m c o).c.next s) (nth .int c.next s + 1)) := by
 have hf := n0 hc
 have hoi := H8.1 ho
 have hdst : o.kind = 1 ∨ o.kind = 5 → o.dest.toNat < 2 := fun h => by omega
 clear hoi
 have triv : c.ins = c.ins ∧ ((nth .pcls c.outs s = nth .pcls c.outs s ∧ @Eq Int (nth .int c.next s) (nth .int c.next s)) ∨ ∃ p : Pcl, nth .pcls c.outs s = nth .pcls c.outs s ++ [p] ∧ @Eq Int p.n (nth .int c.next s) ∧ @Eq Int (nth .int c.next s) (nth .int c.next s + 1)) := ⟨rfl, .inl ⟨rfl, rfl⟩⟩
 have send : ∀ (d : Nat) (q : Pcl), d < 2 → ((nth .pcls (B4 c d q) s = nth .pcls c.outs s ∧ @Eq Int (nth .int (E2 c d) s) (nth .int c.next s)) ∨
   ∃ p : Pcl, nth .pcls (B4 c d q) s = nth .pcls c.outs s ++ [p] ∧ @Eq Int p.n (nth .int c.next s) ∧ @Eq Int (nth .int (E2 c d) s) (nth .int c.next s + 1)) := fun d q hd => by
  unfold B4 E2
  by_cases he : d = s
  ·subst he
   right
   exact ⟨_, m5 .pcls (by omega), rfl, m5 .int (by omega)⟩
  ·left
   exact ⟨o9 .pcls he, o9 .int he⟩
 unfold F4
 split
 ·exact triv
 simp only
 split
 ·exact triv
 split
 ·exact triv
 unfold M7
 split
 ·unfold X0
  split
  ·exact triv
  split
  ·exact triv
  split
  ·exact triv
  exact ⟨rfl, send _ _ (hdst (.inl (by assumption)))⟩
 split
 ·unfold X2
  split
  ·exact triv
  split
  ·exact triv
  split
  ·exact triv
  exact triv
 split
 ·unfold X3
  split
  ·exact triv
  split
  ·exact triv
  exact triv
 split
 ·unfold X1
  split
  ·exact triv
  split
  ·exact triv
  exact triv
 split
 ·unfold P1
  split
  ·exact triv
  split
  ·exact triv
  split
  ·exact triv
  exact ⟨rfl, send _ _ (hdst (.inr (by assumption)))⟩
 ·exact triv
theorem N6 {m : PMap} {c : Cll} {d : Nat} {p : Pcl} (h : (s9 m c d p).ok = true) : (s9 m c d p).c.outs = c.outs ∧ (s9 m c d p).c.next = c.next ∧ (s9 m c d p).c.ins = C3 c d ∧ @Eq Int p.n (nth .int c.ins d) := by
 unfold s9 at h ⊢
 split at h
 ·cases h
 rename_i h1
 rw [if_neg h1]
 have hn : @Eq Int p.n (nth .int c.ins d) := by
  rcases Decidable.em (p.n = nth .int c.ins d) with h2 | h2
  ·exact h2
  ·exact absurd (.inl h2) h1
 split at h
 ·rw [if_pos (by assumption)]
  exact ⟨rfl, rfl, rfl, hn⟩
 ·rename_i h2
  rw [if_neg h2]
  split at h
  ·cases h
  ·rename_i h3
   rw [if_neg h3]
   exact ⟨rfl, rfl, rfl, hn⟩
theorem W4 {c : Cll} {d : Nat} {n : Int} (h : (D6 c d n).ok = true) : (D6 c d n).c.outs = N0 c d n ∧ (D6 c d n).c.next = c.next ∧ (D6 c d n).c.ins = c.ins ∧ @LE.le Int _ n (nth .int c.next d) ∧ @LT.lt Int _ (nth .int c.next d - (nth .pcls c.outs d).length) n := by
 unfold D6 at h ⊢
 split at h
 ·cases h
 ·rename_i h1
  rw [if_neg h1]
  refine ⟨rfl, rfl, rfl, ?_, ?_⟩
  ·exact Int.not_lt.1 fun hh => h1 (.inl hh)
  ·exact Int.not_le.1 fun hh => h1 (.inr hh)
theorem Z3 {m : PMap} {c : Cll} {r : Rec} (hk : r.kind = 1) (h : (j9 m c r).ok = true) : K3 c r.ord = true ∧ (j9 m c r).c = (F4 m c r.ord).c ∧ (j9 m c r).code = (F4 m c r.ord).code := by
 unfold j9 at h ⊢
 rw [if_pos hk] at h ⊢
 split at h
 ·rename_i hf
  rw [if_pos hf]
  exact ⟨hf, rfl, rfl⟩
 ·cases h
theorem V8 {m : PMap} {c : Cll} {r : Rec} (hk : r.kind = 2) (h : (j9 m c r).ok = true) : b7 m c.cell r.side ≠ -1 ∧ (s9 m c r.side.toNat r.pcl).ok = true ∧ (j9 m c r).c = (s9 m c r.side.toNat r.pcl).c := by
 unfold j9 at h ⊢
 rw [if_neg (show ¬ r.kind = 1 by omega)] at h ⊢
 by_cases hs : b7 m c.cell r.side = -1
 ·rw [if_pos hs] at h
  cases h
 ·rw [if_neg hs] at h ⊢
  rw [if_pos hk] at h ⊢
  exact ⟨hs, h, rfl⟩
theorem X7 {m : PMap} {c : Cll} {r : Rec} (hk : r.kind = 3) (h : (j9 m c r).ok = true) : b7 m c.cell r.side ≠ -1 ∧ (D6 c r.side.toNat r.n).ok = true ∧ (j9 m c r).c = (D6 c r.side.toNat r.n).c := by
 unfold j9 at h ⊢
 rw [if_neg (show ¬ r.kind = 1 by omega)] at h ⊢
 by_cases hs : b7 m c.cell r.side = -1
 ·rw [if_pos hs] at h
  cases h
 ·rw [if_neg hs] at h ⊢
  rw [if_neg (show ¬ r.kind = 2 by omega)] at h ⊢
  exact ⟨hs, h, rfl⟩
theorem Y8 {m : PMap} {r : Rec} (h : D4 m r = true) : (r.kind = 1 ∧ K6 r.ord = true) ∨ (r.kind = 2 ∧ (r.side = 0 ∨ r.side = 1) ∧ I3 m r.pcl = true) ∨ (r.kind = 3 ∧ (r.side = 0 ∨ r.side = 1)) := by
 simp only [D4, decide_eq_true_eq] at h
 obtain ⟨_, h2, h3⟩ := h
 rw [M1] at h2
 rcases h2 with h2 | h2 | h2
 ·exact .inl ⟨h2.1, h2.2.1⟩
 ·exact .inr (.inl ⟨h2.1, h2.2.1, h3 h2.1⟩)
 ·exact .inr (.inr ⟨h2.1, h2.2.1⟩)
theorem apply_no {m : PMap} {c : Cll} {r : Rec} (h : (j9 m c r).ok = false) : (j9 m c r).c = c := by
 unfold j9 at h ⊢
 by_cases k1 : r.kind = 1
 ·rw [if_pos k1] at h ⊢
  by_cases hf : K3 c r.ord = true
  ·rw [if_pos hf] at h
   cases h
  ·rw [if_neg hf]
 ·rw [if_neg k1] at h ⊢
  by_cases hs : b7 m c.cell r.side = -1
  ·rw [if_pos hs]
  ·rw [if_neg hs] at h ⊢
   by_cases k2 : r.kind = 2
   ·rw [if_pos k2] at h ⊢
    exact c0j h
   ·rw [if_neg k2] at h ⊢
    exact rel_no h
theorem foldTo_ok {m : PMap} {c : Cll} {l : List Rec} (h : r7 m c = true) : ∀ {k : Nat}, m4 k (H3 m c l) = true → r7 m (r9 m c l k) = true := fun hk => a2y h hk
theorem b2F {m : PMap} {c : Cll} {r : Rec} (hc : r7 m c = true) (hr : D4 m r = true) {s : Nat} (hs : s < 2) : @LE.le Int _ (nth .int c.ins s) (nth .int (j9 m c r).c.ins s) := by
 have hf := n0 hc
 cases hok : (j9 m c r).ok with
 | false => rw [apply_no hok]; exact Int.le_refl _
 | true =>
  rcases Y8 hr with ⟨hk, ho⟩ | ⟨hk, hsd, hp⟩ | ⟨hk, hsd⟩
  ·rw [(Z3 hk hok).2.1, (a3C hc ho hs).1]
   exact Int.le_refl _
  ·obtain ⟨h1, h2, h3⟩ := V8 hk hok
   rw [h3, (N6 h2).2.2.1]
   unfold C3
   by_cases he : r.side.toNat = s
   ·rw [he, m5 .int (by omega)]
    show @LE.le Int _ _ (_ + 1)
    generalize (nth .int c.ins s : Int) = a
    omega
   ·rw [o9 .int he]
    exact Int.le_refl _
  ·obtain ⟨h1, h2, h3⟩ := X7 hk hok
   rw [h3, (W4 h2).2.2.1]
   exact Int.le_refl _
theorem fold_ins {m : PMap} {s : Sto} (hs : y4 m s = true) {d : Nat} (hd : d < 2) : ∀ {j k : Nat}, k ≤ j → j ≤ s.recs.length → @LE.le Int _ (nth .int (r9 m s.base s.recs k).ins d) (nth .int (r9 m s.base s.recs j).ins d) := by
 have hh := s8.1 hs
 have hall := (k9 _ _).1 (b6S hh.2.2.2)
 intro j
 induction j with
 | zero => intro k hk _; rw [show k = 0 by omega]; exact Int.le_refl _
 | succ j ih =>
  intro k hk hj
  by_cases he : k = j + 1
  ·rw [he]; exact Int.le_refl _
  ·refine Int.le_trans (ih (k := k) (by omega) (by omega)) ?_
   have hfit := hall j (by omega)
   simp only [H3, Bool.and_eq_true] at hfit
   exact b2F (foldTo_ok hh.2.1 (k := j) ((k9 _ _).2 fun i hi => hall i (by omega))) hfit.1 hd
def cX (m : PMap) (st : List Sto) (c : Int) : Cll := q9 m (stAt st c)
def inX (m : PMap) (st : List Sto) (c s : Int) : Int := nth .int (cX m st c).ins s.toNat
def nxX (m : PMap) (st : List Sto) (c s : Int) : Int := nth .int (cX m st c).next s.toNat
def ouX (m : PMap) (st : List Sto) (c s : Int) : List Pcl := nth .pcls (cX m st c).outs s.toNat
def pfX (m : PMap) (st : List Sto) (c : Int) (k : Nat) : Cll := r9 m (stAt st c).base (stAt st c).recs k
structure Wr (m : PMap) (st st' : List Sto) (d : Int) (r : Rec) : Prop where
 zero : 0 ≤ d
 lt : d.toNat < st.length
 ok : y4 m (stAt st d) = true
 cell : (stAt st d).base.cell = d
 is : ∃ a, st' = st.set d.toNat ⟨a, (stAt st d).base, (stAt st d).recs ++ [r]⟩
 log : D4 m r = true
 fits : (j9 m (cX m st d) r).ok = true
theorem Wr.at {m : PMap} {st st' : List Sto} {d : Int} {r : Rec} (h : Wr m st st' d r) : (stAt st' d).base = (stAt st d).base ∧ (stAt st' d).recs = (stAt st d).recs ++ [r] := by
 obtain ⟨a, e⟩ := h.is
 rw [e, I0 h.lt, if_pos rfl]
 exact ⟨rfl, rfl⟩
theorem Wr.off {m : PMap} {st st' : List Sto} {d : Int} {r : Rec} (h : Wr m st st' d r) {c : Int} (hc : c.toNat ≠ d.toNat) : stAt st' c = stAt st c := by
 obtain ⟨a, e⟩ := h.is
 rw [e, I0 h.lt, if_neg hc]
theorem Wr.self {m : PMap} {st st' : List Sto} {d : Int} {r : Rec} (h : Wr m st st' d r) : cX m st' d = (j9 m (cX m st d) r).c := by
 have hh := s8.1 h.ok
 unfold cX q9
 rw [h.at.1, h.at.2]
 exact foldC_app hh.2.2.2 h.log h.fits
theorem Wr.other {m : PMap} {st st' : List Sto} {d : Int} {r : Rec} (h : Wr m st st' d r) {c : Int} (hc : c.toNat ≠ d.toNat) : cX m st' c = cX m st c := by
 unfold cX
 rw [h.off hc]
theorem Wr.cok {m : PMap} {st st' : List Sto} {d : Int} {r : Rec} (h : Wr m st st' d r) : r7 m (cX m st d) = true ∧ (cX m st d).cell = d := ⟨a2V h.ok, by unfold cX; rw [a0w, h.cell]⟩
theorem Wr.grow {m : PMap} {st st' : List Sto} {d : Int} {r : Rec} (h : Wr m st st' d r) : Grow m st st' := by
 obtain ⟨a, e⟩ := h.is
 rw [e]
 refine ⟨by simp, fun c => ?_, fun c => ?_⟩
 ·rw [I0 h.lt]
  split
  ·rename_i hh
   unfold stAt
   rw [hh]
  ·rfl
 ·rw [I0 h.lt]
  split
  ·rename_i hh
   refine ⟨[r], ?_⟩
   unfold stAt
   rw [hh]
  ·exact ⟨[], by simp⟩
structure Lsame (st st' : List Sto) : Prop where
 len : st'.length = st.length
 same : ∀ c : Int, (stAt st' c).base = (stAt st c).base ∧ (stAt st' c).recs = (stAt st c).recs
theorem Lsame.refl (st : List Sto) : Lsame st st := ⟨rfl, fun _ => ⟨rfl, rfl⟩⟩
theorem Lsame.cX {m : PMap} {st st' : List Sto} (h : Lsame st st') (c : Int) : cX m st' c = cX m st c := by
 unfold Mo.cX q9
 rw [(h.same c).1, (h.same c).2]
inductive Wrote (m : PMap) (s : Srv) (st st' : List Sto) (x : Msg) : Prop
 | no (h : Lsame st st')
 | yes (h : Wr m st st' x.cell (n7 x)) (hk : x.kind = 2 ∨ x.kind = 5 ∨ x.kind = 6) (hh : v7 s x.cell = true) (hs : (e9 s x.cell).state = cX m st x.cell)
   (hf : x.kind = 2 → o7 (cX m st x.cell).wlks x.ord.who = true ∧ (A3 (cX m st x.cell).wlks x.ord.who).seq < x.ord.seq)
theorem a3u {w : Wld} (hf : Fence w) {k : Nat} {x : Msg} {X : SH} (h : Heard w k x X) : Wrote w.map (nth .srv w.servers x.dest.toNat) w.stores X.stores x := by
 have hcs := a2g h.stos h.ok
 have he := h.eff
 generalize X.srv = s' at *
 generalize X.stores = st' at *
 cases he with
 | same => exact .no (.refl _)
 | ghost => exact .no (.refl _)
 | lost => exact .no (.refl _)
 | grant hu hk hn ha =>
  refine .no ⟨by simp, fun c => ?_⟩
  rw [I0 hcs.2.1]
  split
  ·rename_i hh
   unfold n5 stAt
   rw [hh]
   exact ⟨rfl, rfl⟩
  ·exact ⟨rfl, rfl⟩
 | write hu hk hh ha hc hl hr h1 h2 hff hp =>
  obtain ⟨hmem, hcc⟩ := E1 hh
  have hI := hf.hold _ h.lt _ hmem
  have hO : stAt w.stores (e9 (nth .srv w.servers x.dest.toNat) x.cell).state.cell = n5 w.stores x := by rw [hcc]; rfl
  have hst := hI.state
  rw [hO, hc] at hst
  simp only [Int.toNat_natCast] at hst
  rw [← a3N hcs.2.2.1] at hst
  have hst' : (e9 (nth .srv w.servers x.dest.toNat) x.cell).state = cX w.map w.stores x.cell := hst
  refine .yes ⟨hcs.1, hcs.2.1, hcs.2.2.1, hcs.2.2.2, ⟨_, rfl⟩, hr, h1⟩ hk hh hst' (fun hk2 => ?_)
  rw [← hst']
  exact hff hk2
def Sent (m : PMap) (st : List Sto) (c s : Int) (p : Pcl) : Prop := p.n < inX m st (b7 m c s) (1 - s) ∨ p ∈ ouX m st c s
structure Mail (w : Wld) : Prop where
 seq : ∀ c s, b7 w.map c s ≠ -1 → inX w.map w.stores (b7 w.map c s) (1 - s) ≤ nxX w.map w.stores c s ∧ nxX w.map w.stores c s - (ouX w.map w.stores c s).length ≤ inX w.map w.stores (b7 w.map c s) (1 - s)
 old : ∀ c s, b7 w.map c s ≠ -1 → ∀ k, k ≤ (stAt w.stores c).recs.length → ∀ p ∈ nth .pcls (pfX w.map w.stores c k).outs s.toNat, Sent w.map w.stores c s p
 pcl : ∀ x ∈ w.net, x.kind = 5 → Sent w.map w.stores (b7 w.map x.cell x.side) (1 - x.side) x.pcl
 got : ∀ x ∈ w.net, x.kind = 6 → x.n ≤ inX w.map w.stores (b7 w.map x.cell x.side) (1 - x.side)
theorem Lsame.in {m : PMap} {st st' : List Sto} (h : Lsame st st') (c s : Int) : inX m st' c s = inX m st c s := by unfold inX; rw [h.cX]
theorem Lsame.nx {m : PMap} {st st' : List Sto} (h : Lsame st st') (c s : Int) : nxX m st' c s = nxX m st c s := by unfold nxX; rw [h.cX]
theorem Lsame.ou {m : PMap} {st st' : List Sto} (h : Lsame st st') (c s : Int) : ouX m st' c s = ouX m st c s := by unfold ouX; rw [h.cX]
theorem Lsame.sent {m : PMap} {st st' : List Sto} (h : Lsame st st') {c s : Int} {p : Pcl} (hp : Sent m st c s p) : Sent m st' c s p := by
 unfold Sent
 rw [h.in, h.ou]
 exact hp
theorem I1 {m : PMap} {c s : Int} (h : b7 m c s ≠ -1) : s.toNat < 2 ∧ (1 - s).toNat < 2 ∧ 0 ≤ s ∧ s ≤ 1 := by
 have := (x9 h).1
 omega
theorem b4X {m : PMap} {c s : Int} (h : b7 m c s ≠ -1) : (b7 m c s).toNat ≠ c.toNat := by
 have := x9 h
 omega
theorem Wr.ins {m : PMap} {st st' : List Sto} {d : Int} {r : Rec} (h : Wr m st st' d r) (c : Int) {s : Int} (hs : s.toNat < 2) : inX m st c s ≤ inX m st' c s := by
 by_cases hc : c.toNat = d.toNat
 ·have e : cX m st c = cX m st d := by unfold cX stAt; rw [hc]
  have e' : cX m st' c = cX m st' d := by unfold cX stAt; rw [hc]
  unfold inX
  rw [e, e', h.self]
  exact b2F h.cok.1 h.log hs
 ·unfold inX
  rw [h.other hc]
  exact Int.le_refl _
theorem Wr.sent {m : PMap} {st st' : List Sto} {d : Int} {r : Rec} (h : Wr m st st' d r) (hack : r.kind = 3 → r.n ≤ inX m st (b7 m d r.side) (1 - r.side)) {c s : Int} (hs : b7 m c s ≠ -1) {p : Pcl} (hp : Sent m st c s p) : Sent m st' c s p := by
 have h2 := I1 hs
 have hmono := h.ins (b7 m c s) (s := 1 - s) h2.2.1
 rcases hp with hp | hp
 ·exact .inl (Int.lt_of_lt_of_le hp hmono)
 ·by_cases hc : c.toNat = d.toNat
  ·have hcd : c = d := by
    have := x9 hs
    have := h.zero
    omega
   subst hcd
   have hok := h.fits
   have hcf := n0 h.cok.1
   unfold ouX at hp
   rcases Y8 h.log with ⟨hk, ho⟩ | ⟨hk, hsd, hpo⟩ | ⟨hk, hsd⟩
   ·right
    unfold ouX
    rw [h.self, (Z3 hk hok).2.1]
    rcases (a3C (m := m) h.cok.1 ho h2.1).2 with ⟨e, _⟩ | ⟨q, e, _⟩
    ·rw [e]; exact hp
    ·rw [e]; exact List.mem_append_left _ hp
   ·right
    unfold ouX
    obtain ⟨g1, g2, g3⟩ := V8 hk hok
    rw [h.self, g3, (N6 g2).1]
    exact hp
   ·obtain ⟨g1, g2, g3⟩ := X7 hk hok
    by_cases he : r.side.toNat = s.toNat
    ·have hes : r.side = s := by omega
     have hn := hack hk
     rw [hes] at hn
     by_cases hpn : r.n ≤ p.n
     ·right
      unfold ouX
      rw [h.self, g3, (W4 g2).1]
      unfold N0
      rw [he, m5 .pcls (by omega)]
      exact List.mem_filter.2 ⟨hp, by simpa using hpn⟩
     ·left
      omega
    ·right
     unfold ouX
     rw [h.self, g3, (W4 g2).1]
     unfold N0
     rw [o9 .pcls he]
     exact hp
  ·right
   unfold ouX
   rw [h.other hc]
   exact hp
theorem b3s {m : PMap} {l : List Pcl} {n : Int} (h : s5 m l n = true) {i : Nat} (hi : i < l.length) : (nth .pcl l i).n = n - l.length + i := by
 simp only [s5, Bool.and_eq_true] at h
 have := (k9 _ _).1 h.2 i hi
 simp only [a2K, Bool.and_eq_true, decide_eq_true_eq] at this
 exact this.2
theorem Wr.seq {m : PMap} {st st' : List Sto} {d : Int} {r : Rec} (h : Wr m st st' d r) (hack : r.kind = 3 → r.n ≤ inX m st (b7 m d r.side) (1 - r.side)) (hin : r.kind = 2 → Sent m st (b7 m d r.side) (1 - r.side) r.pcl)
  (hall : ∀ c : Int, 0 ≤ c → c < m.cells → r7 m (cX m st c) = true)
  {c s : Int} (hs : b7 m c s ≠ -1) (hq : inX m st (b7 m c s) (1 - s) ≤ nxX m st c s ∧ nxX m st c s - (ouX m st c s).length ≤ inX m st (b7 m c s) (1 - s)) :
  inX m st' (b7 m c s) (1 - s) ≤ nxX m st' c s ∧ nxX m st' c s - (ouX m st' c s).length ≤ inX m st' (b7 m c s) (1 - s) := by
 have h2 := I1 hs
 have hb := x9 hs
 have hfar := b4X hs
 have hok := h.fits
 have hcf := n0 h.cok.1
 by_cases hc : c.toNat = d.toNat
 ·have hcd : c = d := by have := h.zero; omega
  subst hcd
  have e1 : inX m st' (b7 m c s) (1 - s) = inX m st (b7 m c s) (1 - s) := by unfold inX; rw [h.other hfar]
  rw [e1]
  unfold nxX ouX at hq ⊢
  rw [h.self]
  rcases Y8 h.log with ⟨hk, ho⟩ | ⟨hk, hsd, hpo⟩ | ⟨hk, hsd⟩
  ·rw [(Z3 hk hok).2.1]
   rcases (a3C (m := m) h.cok.1 ho h2.1).2 with ⟨e, e'⟩ | ⟨q, e, _, e'⟩
   ·rw [e, e']; exact hq
   ·rw [e, e', List.length_append, List.length_singleton]
    generalize (nth .int (cX m st c).next s.toNat : Int) = N at *
    omega
  ·obtain ⟨g1, g2, g3⟩ := V8 hk hok
   rw [g3, (N6 g2).1, (N6 g2).2.1]
   exact hq
  ·obtain ⟨g1, g2, g3⟩ := X7 hk hok
   obtain ⟨r1, r2, r3, r4, r5⟩ := W4 g2
   rw [g3, r1, r2]
   unfold N0
   by_cases he : r.side.toNat = s.toNat
   ·have hes : r.side = s := by omega
    have hn := hack hk
    rw [hes] at hn
    rw [he] at r4 r5 ⊢
    rw [m5 .pcls (by omega)]
    have hl := (C5 h.cok.1 h2.1).2.2.2
    have hd := a5M (x := r.n) hl (by
     generalize (nth .int (cX m st c).next s.toNat : Int) = N at *
     omega)
    rw [hd, List.length_drop]
    refine ⟨hq.1, ?_⟩
    generalize (nth .int (cX m st c).next s.toNat : Int) = N at *
    omega
   ·rw [o9 .pcls he]
    exact hq
 ·have e1 : nxX m st' c s = nxX m st c s := by unfold nxX; rw [h.other hc]
  have e2 : ouX m st' c s = ouX m st c s := by unfold ouX; rw [h.other hc]
  rw [e1, e2]
  by_cases hc2 : (b7 m c s).toNat = d.toNat
  ·have hcd : b7 m c s = d := by have := h.zero; omega
   rw [hcd] at hq ⊢
   unfold inX at hq ⊢
   rw [h.self]
   rcases Y8 h.log with ⟨hk, ho⟩ | ⟨hk, hsd, hpo⟩ | ⟨hk, hsd⟩
   ·rw [(Z3 hk hok).2.1, (a3C (m := m) h.cok.1 ho h2.2.1).1]
    exact hq
   ·obtain ⟨g1, g2, g3⟩ := V8 hk hok
    obtain ⟨r1, r2, r3, r4⟩ := N6 g2
    rw [g3, r3]
    unfold C3
    by_cases he : r.side.toNat = (1 - s).toNat
    ·have hes : r.side = 1 - s := by omega
     rw [he] at r4 ⊢
     rw [m5 .int (by omega)]
     have hS := hin hk
     rw [hes, ← hcd, hb.2.2.2.2.2.2.1] at hS
     have hcs : 1 - (1 - s) = s := by omega
     rw [hcs] at hS
     unfold Sent at hS
     have hp : r.pcl ∈ ouX m st c s := by
      rcases hS with h3 | h3
      ·exfalso
       rw [hcd] at h3
       unfold inX at h3
       generalize (nth .int (cX m st d).ins (1 - s).toNat : Int) = I at *
       omega
      ·exact h3
     have hl := (C5 (hall c hb.2.2.1 hb.2.2.2.1) h2.1).2.2.2
     unfold ouX at hp
     obtain ⟨i, hi, he2⟩ := L6 .pcl hp
     have hlt := b3s hl hi
     rw [he2] at hlt
     unfold nxX ouX at hq ⊢
     show @LE.le Int _ (_ + 1) _ ∧ @LE.le Int _ _ (_ + 1)
     generalize (nth .int (cX m st d).ins (1 - s).toNat : Int) = I at *
     generalize (nth .int (cX m st c).next s.toNat : Int) = N at *
     omega
    ·rw [o9 .int he]
     exact hq
   ·obtain ⟨g1, g2, g3⟩ := X7 hk hok
    rw [g3, (W4 g2).2.2.1]
    exact hq
  ·have e3 : inX m st' (b7 m c s) (1 - s) = inX m st (b7 m c s) (1 - s) := by unfold inX; rw [h.other hc2]
   rw [e3]
   exact hq
theorem hears_got {m : PMap} {s : Srv} {st : List Sto} {t : Arb} {v : Int} {x z : Msg} (hv : a4c m s st t v x) (hz : z ∈ (n9 m s st t x).out) (hk : z.kind = 6) :
  x.kind = 5 ∧ v7 s x.cell = true ∧ z.cell = b7 m x.cell x.side ∧ z.side = 1 - x.side ∧
  ((@Eq Int z.n (nth .int (e9 s x.cell).state.ins x.side.toNat) ∧ (n9 m s st t x).stores = st) ∨
   (@Eq Int z.n (nth .int (e9 s x.cell).state.ins x.side.toNat + 1) ∧ (s7 m (e9 s x.cell) (n5 st x) (n7 x)).n = 1 ∧ (n9 m s st t x).stores = st.set x.cell.toNat ⟨(n5 st x).age, (n5 st x).base, (n5 st x).recs ++ [n7 x]⟩)) := by
 obtain ⟨_, _, hall, hsort⟩ := x8.1 hv.1
 unfold n9 at hz ⊢
 by_cases hu0 : s.up = false ∨ x.dest = -1
 ·rw [if_pos hu0] at hz
  cases hz
 rw [if_neg hu0] at hz ⊢
 by_cases k1 : x.kind = 1
 ·rw [if_pos k1] at hz
  exfalso
  unfold I7 at hz
  split at hz
  ·cases hz
  ·split at hz <;> cases hz
 rw [if_neg k1] at hz ⊢
 by_cases k7 : x.kind = 7
 ·rw [if_pos k7] at hz
  cases hz
 rw [if_neg k7] at hz ⊢
 by_cases kh : v7 s x.cell = false
 ·rw [if_pos kh] at hz
  cases hz
 rw [if_neg kh] at hz ⊢
 have hh : v7 s x.cell = true := by simpa using kh
 by_cases k2 : x.kind = 2
 ·rw [if_pos k2] at hz
  exfalso
  unfold T5 at hz
  simp only at hz
  split at hz
  ·simp only [List.mem_singleton] at hz
   subst hz
   exact absurd (show (4 : Int) = 6 from hk) (by decide)
  ·split at hz
   ·cases hz
   ·split at hz
    ·simp only at hz
     split at hz
     ·cases hz
     ·simp only [List.mem_singleton] at hz
      subst hz
      exact absurd (show (3 : Int) = 6 from hk) (by decide)
    ·simp only at hz
     split at hz
     ·simp only [List.mem_singleton] at hz
      subst hz
      exact absurd (show (3 : Int) = 6 from hk) (by decide)
     ·cases hz
 rw [if_neg k2] at hz ⊢
 by_cases k5 : x.kind = 5
 ·rw [if_pos k5] at hz ⊢
  have er : n7 x = ⟨2, s6, x.side, x.pcl, 0⟩ := by rw [n7, if_neg k2, if_pos k5]
  have got : ∀ n : Int, z ∈ P4 m t x n → z.cell = b7 m x.cell x.side ∧ z.side = 1 - x.side ∧ z.n = n := fun n h => by
   unfold P4 at h
   split at h
   ·cases h
   ·simp only [List.mem_singleton] at h
    subst h
    exact ⟨rfl, rfl, rfl⟩
  unfold T4 at hz ⊢
  simp only at hz ⊢
  by_cases hq : x.pcl.n < nth .int (e9 s x.cell).state.ins x.side.toNat
  ·rw [if_pos hq] at hz ⊢
   obtain ⟨g1, g2, g3⟩ := got _ hz
   exact ⟨k5, hh, g1, g2, .inl ⟨g3, rfl⟩⟩
  ·rw [if_neg hq] at hz ⊢
   rw [← er] at hz ⊢
   simp only at hz ⊢
   rcases a7L (m := m) (s := s) (st := st) (cell := x.cell) (r := n7 x) hsort with ⟨w1, w2, w3⟩ | ⟨w1, _, w3⟩ | ⟨w1, _⟩
   ·rw [if_pos w1] at hz
    obtain ⟨g1, g2, g3⟩ := got _ hz
    refine ⟨k5, hh, g1, g2, .inr ⟨g3, w2, ?_⟩⟩
    rw [w3]
    rfl
   ·rw [w1] at hz
    simp only [show ¬ ((2 : Int) = 1) by decide, if_false] at hz
    cases hz
   ·rw [if_neg w1] at hz
    cases hz
 ·rw [if_neg k5] at hz
  cases hz
theorem tick_pcl {m : PMap} {s : Srv} {t : Arb} {cell : Int} {z : Msg} (h : z ∈ B5 m s t cell) (hk : z.kind = 5) : ∃ sd : Int, (sd = 0 ∨ sd = 1) ∧ v7 s cell = true ∧ z.cell = b7 m cell sd ∧ z.side = 1 - sd ∧ b7 m cell sd ≠ -1 ∧ z.pcl ∈ nth .pcls (e9 s cell).state.outs sd.toNat := by
 unfold B5 at h
 split at h
 ·rename_i hh
  have side : ∀ sd, (sd = 0 ∨ sd = 1) → z ∈ A5 m t (e9 s cell) cell sd → ∃ sd : Int, (sd = 0 ∨ sd = 1) ∧ v7 s cell = true ∧ z.cell = b7 m cell sd ∧ z.side = 1 - sd ∧ b7 m cell sd ≠ -1 ∧ z.pcl ∈ nth .pcls (e9 s cell).state.outs sd.toNat := fun sd hsd hz => by
   unfold A5 at hz
   simp only at hz
   split at hz
   ·cases hz
   ·rename_i hn
    rcases List.mem_append.1 hz with hz | hz
    ·obtain ⟨p, hp, rfl⟩ := List.mem_map.1 hz
     exact ⟨sd, hsd, hh, rfl, rfl, fun h => hn (.inl h), List.mem_of_mem_take hp⟩
    ·obtain ⟨_, _, rfl⟩ := List.mem_map.1 hz
     cases hk
  rcases List.mem_append.1 h with h | h
  ·exact side _ (.inl rfl) h
  ·exact side _ (.inr rfl) h
 ·cases h
theorem Z1 {w : Wld} (hok : o6 w = true) {c : Int} (h0 : 0 ≤ c) (h1 : c < w.map.cells) : c.toNat < w.stores.length ∧ y4 w.map (stAt w.stores c) = true ∧ (stAt w.stores c).base.cell = c ∧ r7 w.map (cX w.map w.stores c) = true := by
 obtain ⟨_, h2, _⟩ := m8.1 hok
 obtain ⟨_, g2, g3⟩ := z7.1 h2
 have hl : c.toNat < w.stores.length := by omega
 have := g3 _ hl
 exact ⟨hl, this.1, by unfold stAt; rw [this.2]; omega, a2V this.1⟩
theorem a3s {w : Wld} (hf : Fence w) {i : Nat} (hi : i < w.servers.length) {h : Hld} (hm : h ∈ (nth .srv w.servers i).holds) : h.state = pfX w.map w.stores h.state.cell h.count.toNat ∧ h.count.toNat ≤ (stAt w.stores h.state.cell).recs.length := by
 have hI := hf.hold i hi h hm
 exact ⟨hI.state, by have := hI.count; have := hI.zero; omega⟩
theorem b3r {m : PMap} {st : List Sto} {c : Int} (h : y4 m (stAt st c) = true) : pfX m st c (stAt st c).recs.length = cX m st c := (a3N h).symm
theorem c3b {w w' : Wld} (hok : o6 w = true) (hf : Fence w) (hm : Mail w) (hs : StepC w w') : Mail w' := by
 obtain ⟨h1, h2, h3, h4, h5, h6, h7, h8, h9⟩ := m8.1 hok
 have quiet : ∀ {w' : Wld}, w'.map = w.map → w'.stores = w.stores → (∀ x ∈ w'.net, x.kind = 5 ∨ x.kind = 6 → x ∈ w.net) → Mail w' := fun {w'} e1 e2 e3 => by
  refine ⟨?_, ?_, fun x hx hk => ?_, fun x hx hk => ?_⟩
  ·rw [e1, e2]; exact hm.seq
  ·rw [e1, e2]; exact hm.old
  ·rw [e1, e2]; exact hm.pcl x (e3 x hx (.inl hk)) hk
  ·rw [e1, e2]; exact hm.got x (e3 x hx (.inr hk)) hk
 cases hs with
 | same => exact hm
 | grant cell server hgr =>
  refine quiet rfl rfl fun x hx hk => ?_
  rcases D0 hx with hx | hx
  ·exact hx
  ·simp only [List.mem_singleton] at hx
   subst hx
   rcases hk with hk | hk <;> cases hk
 | ask => exact quiet rfl rfl fun x hx _ => hx
 | say who hs =>
  refine quiet rfl rfl fun x hx hk => ?_
  rcases D0 hx with hx | hx
  ·exact hx
  ·simp only [List.mem_singleton] at hx
   subst hx
   rw [a5w hs] at hk
   rcases hk with hk | hk <;> cases hk
 | gate i hi hd => exact quiet rfl rfl fun x hx _ => a3E (i := i) hx
 | lose i hi => exact quiet rfl rfl fun x hx _ => a3E hx
 | twice i hi =>
  refine quiet rfl rfl fun x hx hk => ?_
  rcases D0 hx with hx | hx
  ·exact hx
  ·simp only [List.mem_singleton] at hx
   subst hx
   exact n6 .msg hi
 | fall i hi => exact quiet rfl rfl fun x hx _ => hx
 | rise i hi hu => exact quiet rfl rfl fun x hx _ => hx
 | tick i hi cell =>
  refine ⟨hm.seq, hm.old, fun x hx hk => ?_, fun x hx hk => ?_⟩
  ·rcases D0 hx with hx | hx
   ·exact hm.pcl x hx hk
   ·obtain ⟨sd, hsd, hh, e1, e2, hne, hp⟩ := tick_pcl hx hk
    obtain ⟨hmem, hcc⟩ := E1 hh
    obtain ⟨p1, p2⟩ := a3s hf hi hmem
    have hb := x9 hne
    rw [e1, e2]
    show Sent w.map w.stores (b7 w.map (b7 w.map cell sd) (1 - sd)) (1 - (1 - sd)) x.pcl
    rw [hb.2.2.2.2.2.2.1, show 1 - (1 - sd) = sd by omega]
    rw [p1, hcc] at hp
    rw [hcc] at p2
    exact hm.old cell sd hne _ p2 _ hp
  ·rcases D0 hx with hx | hx
   ·exact hm.got x hx hk
   ·have := a6P hx
    omega
 | hear i hi hd =>
  obtain ⟨X, hX, e⟩ := heard hok hi hd
  rw [e]
  generalize nth .msg w.net i = x at *
  have hv : a4c w.map (nth .srv w.servers x.dest.toNat) w.stores w.table w.servers.length x := ⟨hX.srv, hX.stos, hX.arb, hX.ok⟩
  have hw := a3u hf hX
  have hcs := a2g hX.stos hX.ok
  have hmo := a9M hX.ok
  have hack : (n7 x).kind = 3 → (x.kind = 2 ∨ x.kind = 5 ∨ x.kind = 6) → (n7 x).n ≤ inX w.map w.stores (b7 w.map x.cell (n7 x).side) (1 - (n7 x).side) := fun hk hkk => by
   have k6 : x.kind = 6 := by
    rcases hkk with h0 | h0 | h0
    ·rw [n7, if_pos h0] at hk; cases hk
    ·rw [n7, if_neg (by omega), if_pos h0] at hk; cases hk
    ·exact h0
   have er : n7 x = ⟨3, s6, x.side, u6, x.n⟩ := by rw [n7, if_neg (by omega), if_neg (by omega)]
   rw [er]
   exact hm.got x hX.mem k6
  have hin : (n7 x).kind = 2 → (x.kind = 2 ∨ x.kind = 5 ∨ x.kind = 6) → Sent w.map w.stores (b7 w.map x.cell (n7 x).side) (1 - (n7 x).side) (n7 x).pcl := fun hk hkk => by
   have k5 : x.kind = 5 := by
    rcases hkk with h0 | h0 | h0
    ·rw [n7, if_pos h0] at hk; cases hk
    ·exact h0
    ·rw [n7, if_neg (by omega), if_neg (by omega)] at hk; cases hk
   have er : n7 x = ⟨2, s6, x.side, x.pcl, 0⟩ := by rw [n7, if_neg (by omega), if_pos k5]
   rw [er]
   exact hm.pcl x hX.mem k5
  have hsent : ∀ {c s : Int}, b7 w.map c s ≠ -1 → ∀ {p : Pcl}, Sent w.map w.stores c s p → Sent w.map X.stores c s p := fun {c s} hne {p} hp => by
   cases hw with
   | no h => exact h.sent hp
   | yes h hk hh hs hff => exact h.sent (fun k3 => hack k3 hk) hne hp
  have hins : ∀ (c : Int) {s : Int}, s.toNat < 2 → inX w.map w.stores c s ≤ inX w.map X.stores c s := fun c {s} hs => by
   cases hw with
   | no h => rw [h.in]; exact Int.le_refl _
   | yes h hk hh hs2 hff => exact h.ins c hs
  refine ⟨fun c s hne => ?_, fun c s hne k hk p hp => ?_, fun z hz hk => ?_, fun z hz hk => ?_⟩
  ·cases hw with
   | no h =>
    simp only [u5]
    rw [h.in, h.nx, h.ou]
    exact hm.seq c s hne
   | yes h hk hh hs hff => exact h.seq (fun k3 => hack k3 hk) (fun k2 => hin k2 hk) (fun c h0 h1 => (Z1 hok h0 h1).2.2.2) hne (hm.seq c s hne)
  ·simp only [u5] at hk hp ⊢
   cases hw with
   | no h =>
    unfold pfX at hp
    rw [(h.same c).1, (h.same c).2] at hp
    rw [(h.same c).2] at hk
    exact hsent hne (hm.old c s hne k hk p hp)
   | yes h hkk hh hs hff =>
    have hb := x9 hne
    by_cases hc : c.toNat = x.cell.toNat
    ·have hcd : c = x.cell := by omega
     subst hcd
     rw [h.at.2, List.length_append, List.length_singleton] at hk
     by_cases hkl : k ≤ (stAt w.stores x.cell).recs.length
     ·refine hsent hne (hm.old _ s hne k hkl p ?_)
      unfold pfX at hp ⊢
      rw [h.at.1, h.at.2, O6 hkl] at hp
      exact hp
     ·
      right
      have hkk2 : k = (stAt X.stores x.cell).recs.length := by rw [h.at.2, List.length_append, List.length_singleton]; omega
      have hg := h.grow
      have hsok : y4 w.map (stAt X.stores x.cell) = true := by
       have hok2 := (eff_ok hX.srv hX.stos hX.ok hX.eff).2.1
       have := (z7.1 hok2).2.2 x.cell.toNat (by rw [hg.len]; exact hcs.2.1)
       exact this.1
      rw [hkk2, b3r hsok] at hp
      exact hp
    ·unfold pfX at hp
     rw [h.off hc] at hp hk
     exact hsent hne (hm.old c s hne k hk p hp)
  ·rcases D0 hz with hz | hz
   ·have hzn := List.mem_of_mem_eraseIdx hz
    have hzs := a1O (h8 z hzn).1 (.inl hk)
    have hb := x9 hzs
    refine hsent ?_ (hm.pcl z hzn hk)
    show b7 w.map (b7 w.map z.cell z.side) (1 - z.side) ≠ -1
    rw [hb.2.2.2.2.2.2.1]
    omega
   ·rw [hX.is] at hz
    have := a5P hz
    omega
  ·rcases D0 hz with hz | hz
   ·have hzn := List.mem_of_mem_eraseIdx hz
    have hzs := a1O (h8 z hzn).1 (.inr (.inl hk))
    exact Int.le_trans (hm.got z hzn hk) (hins _ (I1 hzs).2.1)
   ·rw [hX.is] at hz
    obtain ⟨k5, hh, e1, e2, hcase⟩ := hears_got hv hz hk
    have hzs := a1O hX.ok (.inl k5)
    have hb := x9 hzs
    have h2 := I1 hzs
    obtain ⟨hmem, hcc⟩ := E1 hh
    have hI := hf.hold _ hX.lt _ hmem
    obtain ⟨p1, p2⟩ := a3s hf hX.lt hmem
    have hco := Z1 hok hmo.1 hmo.2
    show z.n ≤ inX w.map X.stores (b7 w.map z.cell z.side) (1 - z.side)
    rw [e1, e2, hb.2.2.2.2.2.2.1, show 1 - (1 - x.side) = x.side by omega]
    have hfi := fold_ins hco.2.1 h2.1 (j := (stAt w.stores x.cell).recs.length) (k := (e9 (nth .srv w.servers x.dest.toNat) x.cell).count.toNat) (by rw [hcc] at p2; exact p2) (Nat.le_refl _)
    rw [hcc] at p1
    have hpre : @LE.le Int _ (nth .int (e9 (nth .srv w.servers x.dest.toNat) x.cell).state.ins x.side.toNat) (inX w.map w.stores x.cell x.side) := by
     rw [p1]
     unfold inX
     rw [← b3r hco.2.1]
     exact hfi
    rcases hcase with ⟨g1, g2⟩ | ⟨g1, g2, g3⟩
    ·rw [g1]
     exact Int.le_trans hpre (hins _ h2.1)
    ·
     obtain ⟨w1, w2, w3, w4, w5, w6, w7, w8, w9, w10, w11⟩ := a8O g2
     have hX2 : X.stores = w.stores.set x.cell.toNat ⟨(n5 w.stores x).age, (n5 w.stores x).base, (n5 w.stores x).recs ++ [n7 x]⟩ := by rw [hX.is]; exact g3
     have hW : Wr w.map w.stores X.stores x.cell (n7 x) := ⟨hcs.1, hcs.2.1, hcs.2.2.1, hcs.2.2.2, ⟨_, hX2⟩, w6, w7⟩
     have er : n7 x = ⟨2, s6, x.side, x.pcl, 0⟩ := by rw [n7, if_neg (by omega), if_pos k5]
     have hcount : (e9 (nth .srv w.servers x.dest.toNat) x.cell).count.toNat = (stAt w.stores x.cell).recs.length := by
      have : (n5 w.stores x) = stAt w.stores x.cell := rfl
      rw [this] at w4
      omega
     have hst : (e9 (nth .srv w.servers x.dest.toNat) x.cell).state = cX w.map w.stores x.cell := by
      rw [p1, hcount, b3r hco.2.1]
     obtain ⟨r1, r2, r3⟩ := V8 (by rw [er]) w7
     have hri := N6 r2
     rw [g1]
     unfold inX
     rw [hW.self]
     show @LE.le Int _ (_ + 1) _
     have e5 : (j9 w.map (cX w.map w.stores x.cell) (n7 x)).c = (s9 w.map (cX w.map w.stores x.cell) (n7 x).side.toNat (n7 x).pcl).c := r3
     have hri' : (s9 w.map (cX w.map w.stores x.cell) (n7 x).side.toNat (n7 x).pcl).c.ins = C3 (cX w.map w.stores x.cell) (n7 x).side.toNat := hri.2.2.1
     rw [e5, hri', hst, er]
     have hcf := n0 hco.2.2.2
     unfold C3
     simp only
     rw [m5 .int (by omega)]
     exact Int.le_refl _
def cntN (l : List Note) (who : Int) : Int := ((l.filter fun n => decide (n.who = who)).length : Int)
theorem b7d (who : Int) : cntN [] who = 0 := rfl
theorem b7e (l : List Note) (n : Note) (who : Int) : cntN (l ++ [n]) who = cntN l who + (if n.who = who then 1 else 0) := by
 unfold cntN
 rw [List.filter_append, List.length_append]
 by_cases h : n.who = who
 ·simp [h]
 ·simp [h]
structure Noted (f : Int → Int) (w : Wld) : Prop where
 num : ∀ i, i < w.notes.length → (nth .note w.notes i).seq = f (nth .note w.notes i).who + 1 + cntN (w.notes.take i) (nth .note w.notes i).who
 row : w.notes.length < 150 → ∀ i, i < w.rows.length → (nth .row w.rows i).seq = f (nth .row w.rows i).who + cntN w.notes (nth .row w.rows i).who
theorem ask_seq (l : List Row) (who kind dest n : Int) (i : Nat) : (M6 l who kind dest n).b.length = l.length ∧ (nth .row (M6 l who kind dest n).b i).who = (nth .row l i).who ∧ (nth .row (M6 l who kind dest n).b i).seq = (nth .row l i).seq := by
 unfold M6
 split
 ·rename_i h
  have hlt := a1o l who
  have hj : (l6 l who).toNat < l.length := by omega
  refine ⟨List.length_set, ?_⟩
  simp only
  rw [F8 .row hj]
  split
  ·rename_i e; subst e; exact ⟨rfl, rfl⟩
  ·exact ⟨rfl, rfl⟩
 ·exact ⟨rfl, rfl, rfl⟩
theorem hear_seq {m : PMap} {l : List Row} {v : Int} {x : Msg} (h1 : z8 m l = true) (h2 : u0 m v x = true) (i : Nat) :
  (nth .row (y7 m l x).b i).who = (nth .row l i).who ∧
  ((y7 m l x).ok = false → (nth .row (y7 m l x).b i).seq = (nth .row l i).seq) ∧
  ((y7 m l x).ok = true → i < l.length → (nth .row (y7 m l x).b i).seq = (nth .row l i).seq + (if x.ord.who = (nth .row l i).who then 1 else 0)) := by
 have hlt := a1o l x.ord.who
 unfold y7
 simp only
 split
 ·rename_i h
  have hj : (l6 l x.ord.who).toNat < l.length := by omega
  have hw := b3l h.1
  have hro := (a4T h1 hj).1
  have hbusy : (nth .row l (l6 l x.ord.who).toNat).busy = true := h.2.1
  have hord : (nth .row l (l6 l x.ord.who).toNat).ord = x.ord := h.2.2
  simp only [R9, decide_eq_true_eq] at hro
  have hseq := (hro.2.2.2.2.2.2.2.2.2 hbusy).2.2
  rw [hord] at hseq
  split
  ·rw [F8 .row hj]
   refine ⟨?_, fun h => by simp at h, fun _ hi => ?_⟩
   ·split
    ·rename_i e; subst e; rfl
    ·rfl
   ·split
    ·rename_i e; subst e
     rw [if_pos hw.symm]
     exact hseq
    ·rename_i e
     have hne : ¬ x.ord.who = (nth .row l i).who := fun hh => e (by have := b5E h1 hi hh.symm; omega)
     rw [if_neg hne]
     exact (Int.add_zero _).symm
  ·split
   ·rw [F8 .row hj]
    refine ⟨?_, fun _ => ?_, fun h => by simp at h⟩
    ·split
     ·rename_i e; subst e; rfl
     ·rfl
    ·split
     ·rename_i e; subst e; rfl
     ·rfl
   ·exact ⟨rfl, fun _ => rfl, fun h => by simp at h⟩
 ·exact ⟨rfl, fun _ => rfl, fun h => by simp at h⟩
theorem a8V {l : List Note} {n : Note} {i : Nat} (h : i ≤ l.length) : (l ++ [n]).take i = l.take i := by
 rw [List.take_append_of_le_length h]
theorem b8v {f : Int → Int} {w w' : Wld} (hok : o6 w = true) (hn : Noted f w) (hs : StepC w w') : Noted f w' := by
 obtain ⟨h1, h2, h3, h4, h5, h6, h7, h8, h9⟩ := m8.1 hok
 have quiet : ∀ {w' : Wld}, w'.notes = w.notes → w'.rows = w.rows → Noted f w' := fun {w'} e1 e2 => by
  refine ⟨?_, ?_⟩
  ·rw [e1]; exact hn.num
  ·rw [e1, e2]; exact hn.row
 cases hs with
 | same => exact hn
 | grant cell server hg => exact quiet rfl rfl
 | ask who what dest n =>
  refine ⟨hn.num, fun hl i hi => ?_⟩
  have ha := ask_seq w.rows who what dest n i
  have hi' : i < w.rows.length := by rw [← ha.1]; exact hi
  show (nth .row (M6 w.rows who what dest n).b i).seq = f (nth .row (M6 w.rows who what dest n).b i).who + cntN w.notes (nth .row (M6 w.rows who what dest n).b i).who
  rw [ha.2.1, ha.2.2]
  exact hn.row hl i hi'
 | say who hs => exact quiet rfl rfl
 | gate i hi hd =>
  have hx := (h8 _ (n6 .msg hi)).1
  generalize nth .msg w.net i = x at hx hd
  have hq := fun j => hear_seq h3 hx j
  have hk := b0g h3 hx
  show Noted f (a2I (wCut w i) x)
  by_cases hc : (y7 w.map w.rows x).ok = true ∧ w.notes.length < 150
  ·have hw : 0 ≤ l6 w.rows x.ord.who := (hk.2.2 hc.1).2.1
   have hpl := a1o w.rows x.ord.who
   have hj : (l6 w.rows x.ord.who).toNat < w.rows.length := by omega
   have hwho := b3l hw
   have hold := hn.row hc.2 _ hj
   have hro := (a4T h3 hj).1
   simp only [R9, decide_eq_true_eq] at hro
   have hbusy : (nth .row w.rows (l6 w.rows x.ord.who).toNat).busy = true := (hk.2.2 hc.1).2.2.1
   have hord : (nth .row w.rows (l6 w.rows x.ord.who).toNat).ord = x.ord := (hk.2.2 hc.1).2.2.2.1
   have hseq := (hro.2.2.2.2.2.2.2.2.2 hbusy).2.2
   rw [hord] at hseq
   rw [hwho] at hold
   have en : (a2I (wCut w i) x).notes = w.notes ++ [⟨x.ord.who, x.ord.seq, x.n⟩] := by
    unfold a2I
    exact if_pos hc
   have er : (a2I (wCut w i) x).rows = (y7 w.map w.rows x).b := rfl
   refine ⟨?_, ?_⟩
   ·rw [en]
    intro j hjl
    rw [List.length_append, List.length_singleton] at hjl
    by_cases hlt : j < w.notes.length
    ·rw [b3N .note hlt, a8V (by omega)]
     exact hn.num j hlt
    ·have : j = w.notes.length := by omega
     subst this
     rw [a6a .note, a8V (Nat.le_refl _), List.take_length]
     show x.ord.seq = f x.ord.who + 1 + cntN w.notes x.ord.who
     have a1 : x.ord.seq = (nth .row w.rows (l6 w.rows x.ord.who).toNat).seq + 1 := hseq
     have a2 : (nth .row w.rows (l6 w.rows x.ord.who).toNat).seq = f x.ord.who + cntN w.notes x.ord.who := hold
     omega
   ·rw [en, er]
    intro hl j hjl
    rw [hk.2.1] at hjl
    have hqj := hq j
    have a := hqj.2.2 hc.1 hjl
    have b := hn.row hc.2 j hjl
    rw [hqj.1, b7e]
    have c : (nth .row (y7 w.map w.rows x).b j).seq = (nth .row w.rows j).seq + (if x.ord.who = (nth .row w.rows j).who then 1 else 0) := a
    have d : (nth .row w.rows j).seq = f (nth .row w.rows j).who + cntN w.notes (nth .row w.rows j).who := b
    show (nth .row (y7 w.map w.rows x).b j).seq = f (nth .row w.rows j).who + (cntN w.notes (nth .row w.rows j).who + (if x.ord.who = (nth .row w.rows j).who then 1 else 0))
    omega
  ·have en : (a2I (wCut w i) x).notes = w.notes := by
    unfold a2I
    exact if_neg hc
   have er : (a2I (wCut w i) x).rows = (y7 w.map w.rows x).b := rfl
   refine ⟨?_, ?_⟩
   ·rw [en]; exact hn.num
   ·rw [en, er]
    intro hl j hjl
    rw [hk.2.1] at hjl
    have ho : (y7 w.map w.rows x).ok = false := by
     cases hh : (y7 w.map w.rows x).ok
     ·rfl
     ·exact absurd ⟨hh, hl⟩ hc
    have hqj := hq j
    rw [hqj.1, hqj.2.1 ho]
    exact hn.row hl j hjl
 | hear i hi hd => exact quiet rfl rfl
 | lose i hi => exact quiet rfl rfl
 | twice i hi => exact quiet rfl rfl
 | tick i hi cell => exact quiet rfl rfl
 | fall i hi => exact quiet rfl rfl
 | rise i hi hu => exact quiet rfl rfl
structure Beg (l : List Wlk) (w : Wld) : Prop where
 ok : o6 w = true
 all : z6 w.map l = true
 fresh : ∀ v ∈ l, v.seq = 0 ∧ v.last = 0
 few : l.length ≤ 5
 net : w.net = []
 notes : w.notes = []
 rows : w.rows = l.map (Z6 w.map)
 recs : ∀ c : Int, 0 ≤ c → c < w.map.cells → (stAt w.stores c).recs = [] ∧ (stAt w.stores c).base = X5 w.map c l
 m9 : ∀ i, i < w.servers.length → (nth .srv w.servers i).m9 = []
 fence : Fence w
theorem new_nth {m : PMap} {l : List Wlk} {i : Nat} (hi : i < m.cells.toNat) : nth .sto ((List.range m.cells.toNat).map fun (i : Nat) => L3 m (i : Int) l) i = L3 m (i : Int) l := by
 rw [k8 .sto _ i (by simpa using hi)]; simp
theorem beg_new {m : PMap} {l : List Wlk} {v : Int} (h1 : o8 m = true) (h4 : z6 m l = true) (h2 : 1 ≤ v) (h3 : v ≤ 3) (hf : ∀ x ∈ l, x.seq = 0 ∧ x.last = 0) (hl : l.length ≤ 5) : Beg l (a4B m l v) := by
 have hok := c1L h1 h4 h2 h3
 have he : a4B m l v = N3 m l v := by rw [a4B, if_pos ⟨h1, h4, h2, h3⟩]
 rw [he] at hok ⊢
 have hsrv : ∀ i, i < (N3 m l v).servers.length → nth .srv (N3 m l v).servers i = ⟨true, [], []⟩ := fun i hi => by
  rw [k8 .srv _ i hi]
  simp [N3]
 refine ⟨hok, h4, hf, hl, rfl, rfl, by simp [N3, a7z, h1, h4], fun c h0 hc => ?_, fun i hi => by rw [hsrv i hi], ⟨fun i hi h hm => ?_, fun i j c n t1 t2 => ?_⟩⟩
 ·have hi : c.toNat < m.cells.toNat := by have : c < m.cells := hc; omega
  have : stAt (N3 m l v).stores c = L3 m ((c.toNat : Nat) : Int) l := new_nth hi
  rw [this, show ((c.toNat : Nat) : Int) = c by omega]
  exact ⟨rfl, rfl⟩
 ·rw [hsrv i hi] at hm
  cases hm
 ·cases t1 with
  | hold hi h hm hc hn => rw [hsrv i hi] at hm; cases hm
  | word x hx hk hd hc hn => cases hx
  | table h0 hc hs hn =>
   exfalso
   have hc' : c.toNat < m.cells.toNat := by simpa [N3, a2E, h1] using hc
   have : nth .int (N3 m l v).table.servers c.toNat = (-1 : Int) := by
    show nth .int (a2E m).servers c.toNat = (-1 : Int)
    rw [a2E, if_pos h1, k8 .int _ _ (by simpa using hc')]
    simp
   rw [this] at hs
   omega
theorem b8K {m : PMap} {s : Srv} {st : List Sto} {t : Arb} {x : Msg} (hk : x.kind = 1) : (n9 m s st t x).out = [] ∧ (n9 m s st t x).srv.m9 = s.m9 ∧
  ((n9 m s st t x).stores = st ∨ (n9 m s st t x).stores = st.set x.cell.toNat ⟨x.n, (nth .sto st x.cell.toNat).base, (nth .sto st x.cell.toNat).recs⟩) := by
 unfold n9
 split
 ·exact ⟨rfl, rfl, .inl rfl⟩
 try rw [if_pos hk]
 unfold I7
 split
 ·exact ⟨rfl, rfl, .inl rfl⟩
 split
 ·exact ⟨rfl, rfl, .inl rfl⟩
 ·exact ⟨rfl, rfl, .inr rfl⟩
theorem c0Y {w : Wld} (e : Evt) (hok : o6 w = true) (hf : Fence w) : Fence (m0 w e) := by
 have : m0 w e = u4 w e := by simp [m0, hok]
 rw [this]
 exact b0t hok hf (a4D w e)
theorem beg_step {l : List Wlk} {w : Wld} (h : Beg l w) (c d : Int) : Beg l (m0 (m0 w ⟨1, c, 0, d, 0⟩) ⟨4, 0, 0, 0, 0⟩) := by
 have ok1 := b7B ⟨1, c, 0, d, 0⟩ h.ok
 have ok2 := b7B ⟨4, 0, 0, 0, 0⟩ ok1
 have f1 := c0Y ⟨1, c, 0, d, 0⟩ h.ok h.fence
 have f2 := c0Y ⟨4, 0, 0, 0, 0⟩ ok1 f1
 have e1 : m0 w ⟨1, c, 0, d, 0⟩ = u4 w ⟨1, c, 0, d, 0⟩ := by simp [m0, h.ok]
 by_cases hg : (r6 w.table w.servers.length c d).ok = true
 ·have e2 : m0 w ⟨1, c, 0, d, 0⟩ = ⟨w.map, w.servers, w.stores, (r6 w.table w.servers.length c d).t, w.rows, [a1U (r6 w.table w.servers.length c d).t c d], w.notes⟩ := by
   rw [e1]
   unfold u4
   rw [if_pos rfl]
   simp only [hg, if_true, u5, h.net]
   rfl
  have hgr := a6q (m8.1 h.ok).1 hg
  generalize hT : (r6 w.table w.servers.length c d).t = T at *
  generalize hx : a1U T c d = x at *
  have xk : x.kind = 1 := by rw [← hx]; rfl
  have xd : x.dest = d := by rw [← hx]; rfl
  have xc : x.cell = c := by rw [← hx]; rfl
  have hd : ¬ x.dest = -1 := by rw [xd]; omega
  rw [e2] at ok1 f1 ok2 f2 ⊢
  generalize hw1 : (⟨w.map, w.servers, w.stores, T, w.rows, [x], w.notes⟩ : Wld) = w1 at *
  have n1 : w1.net = [x] := by rw [← hw1]
  have e3 : m0 w1 ⟨4, 0, 0, 0, 0⟩ = a1w (wCut w1 0) x := by
   have hn : nth .msg w1.net 0 = x := by rw [n1]; rfl
   have hp : (0 : Int) ≤ 0 ∧ (0 : Int) < (w1.net.length : Int) := by rw [n1]; exact ⟨Int.le_refl 0, by simp⟩
   simp only [m0, ok1, if_true]
   unfold u4
   rw [if_neg (by decide), if_neg (by decide), if_neg (by decide), if_pos (by decide), if_pos hp, if_pos rfl]
   show S7 w1 0 = _
   unfold S7
   rw [hn]
   simp only
   rw [if_neg hd]
  rw [e3] at ok2 f2 ⊢
  have hh := @b8K w1.map (nth .srv w1.servers x.dest.toNat) w1.stores w1.table x xk
  have e4 : a1w (wCut w1 0) x = ⟨w1.map, w1.servers.set x.dest.toNat (n9 w1.map (nth .srv w1.servers x.dest.toNat) w1.stores w1.table x).srv, (n9 w1.map (nth .srv w1.servers x.dest.toNat) w1.stores w1.table x).stores, w1.table, w1.rows, [], w1.notes⟩ := by
   unfold a1w u5 wCut
   simp only [hh.1, n1]
   rfl
  rw [e4] at ok2 f2 ⊢
  have m1 : w1.map = w.map := by rw [← hw1]
  have s1 : w1.servers = w.servers := by rw [← hw1]
  have st1 : w1.stores = w.stores := by rw [← hw1]
  refine ⟨ok2, by rw [m1]; exact h.all, h.fresh, h.few, rfl, by rw [← hw1]; exact h.notes, by rw [← hw1]; exact h.rows, fun k h0 hk => ?_, fun i hi => ?_, f2⟩
  ·have hr := h.recs k h0 (by rw [← m1]; exact hk)
   rcases hh.2.2 with e | e
   ·show (stAt (n9 w1.map (nth .srv w1.servers x.dest.toNat) w1.stores w1.table x).stores k).recs = [] ∧ _
    rw [e, st1, m1]
    exact hr
   ·have hlen := (z7.1 (m8.1 h.ok).2.1).2.1
    have hcl : x.cell.toNat < w1.stores.length := by
     have ha := E6 (m8.1 h.ok).1
     have := hgr.2.1
     rw [st1, xc]
     omega
    show (stAt (n9 w1.map (nth .srv w1.servers x.dest.toNat) w1.stores w1.table x).stores k).recs = [] ∧ (stAt (n9 w1.map (nth .srv w1.servers x.dest.toNat) w1.stores w1.table x).stores k).base = _
    rw [e, I0 hcl]
    by_cases hkk : k.toNat = x.cell.toNat
    ·rw [if_pos hkk]
     have : nth .sto w1.stores x.cell.toNat = stAt w.stores k := by unfold stAt; rw [st1, hkk]
     simp only
     rw [this, m1]
     exact hr
    ·rw [if_neg hkk, st1, m1]
     exact hr
  ·have hi' : i < w.servers.length := by rw [s1] at hi; simpa using hi
   have hdn : x.dest.toNat < w1.servers.length := by rw [s1, xd]; omega
   show (nth .srv (w1.servers.set x.dest.toNat _) i).m9 = []
   rw [a0f hdn]
   split
   ·rw [hh.2.1, s1]
    exact h.m9 _ (by rw [← s1]; exact hdn)
   ·rw [s1]; exact h.m9 i hi'
 ·have e2 : m0 w ⟨1, c, 0, d, 0⟩ = w := by
   rw [e1]
   unfold u4
   rw [if_pos rfl]
   simp only
   rw [if_neg hg]
  rw [e2] at ok2 f2 ⊢
  have e3 : m0 w ⟨4, 0, 0, 0, 0⟩ = w := by
   have hp : ¬ ((0 : Int) ≤ 0 ∧ (0 : Int) < (w.net.length : Int)) := by rw [h.net]; decide
   simp only [m0, h.ok, if_true]
   unfold u4
   rw [if_neg (by decide), if_neg (by decide), if_neg (by decide), if_pos (by decide), if_neg hp]
  rw [e3]
  exact h
inductive Ran (w0 : Wld) : Wld → Prop
 | refl : Ran w0 w0
 | step {w : Wld} (e : Evt) (h : Ran w0 w) : Ran w0 (m0 w e)
def a7U (l : List Row) (who : Int) : Int := (rowAt l who).seq
theorem b9h {l : List Wlk} {w : Wld} (h : Beg l w) {c : Int} (h0 : 0 ≤ c) (h1 : c < w.map.cells) : cX w.map w.stores c = X5 w.map c l := by
 have hr := h.recs c h0 h1
 have hs := (Z1 h.ok h0 h1).2.1
 unfold cX
 rw [a3N hs, hr.1, hr.2]
 rfl
theorem T6 {m : PMap} {c s : Int} (h : b7 m c s ≠ -1) : 0 ≤ c ∧ c < m.cells ∧ 0 ≤ b7 m c s ∧ b7 m c s < m.cells := by
 unfold b7 at h ⊢
 grind
theorem a1W {m : PMap} {c : Int} {l : List Wlk} (hp : o8 m = true) (h0 : 0 ≤ c) (h1 : c < m.cells) (hl : z6 m l = true) : X5 m c l = ⟨c, K0 m c l l.length, 0, [[], []], [0, 0], [0, 0]⟩ := by
 rw [X5, if_pos ⟨hp, h0, h1, hl⟩]
theorem nth00 (t : Nat) : @Eq Int (nth .int [0, 0] t) 0 := by
 match t with
 | 0 => rfl
 | 1 => rfl
 | n + 2 => simp [nth, RT.dflt]
theorem nthEE (t : Nat) : @Eq (List Pcl) (nth .pcls [[], []] t) [] := by
 match t with
 | 0 => rfl
 | 1 => rfl
 | n + 2 => simp [nth, RT.dflt]
theorem beg_mail {l : List Wlk} {w : Wld} (h : Beg l w) : Mail w := by
 have hp : o8 w.map = true := (z7.1 (m8.1 h.ok).2.1).1
 have hx : ∀ c : Int, 0 ≤ c → c < w.map.cells → ∀ s, inX w.map w.stores c s = 0 ∧ nxX w.map w.stores c s = 0 ∧ ouX w.map w.stores c s = [] := fun c h0 h1 s => by
  unfold inX nxX ouX
  rw [b9h h h0 h1, a1W hp h0 h1 h.all]
  exact ⟨nth00 _, nth00 _, nthEE _⟩
 refine ⟨fun c s hs => ?_, fun c s hs k hk p hm => ?_, fun x hx => ?_, fun x hx => ?_⟩
 ·have hi := T6 hs
  have a := hx c hi.1 hi.2.1 s
  have b := hx _ hi.2.2.1 hi.2.2.2 (1 - s)
  rw [b.1, a.2.1, a.2.2]
  exact ⟨Int.le_refl 0, by decide⟩
 ·exfalso
  have hi := T6 hs
  have hr := h.recs c hi.1 hi.2.1
  rw [hr.1] at hk
  have hk0 : k = 0 := by simpa using hk
  subst hk0
  have : pfX w.map w.stores c 0 = X5 w.map c l := hr.2
  rw [this, a1W hp hi.1 hi.2.1 h.all, nthEE] at hm
  cases hm
 ·rw [h.net] at hx; cases hx
 ·rw [h.net] at hx; cases hx
theorem beg_shown {l : List Wlk} {w : Wld} (h : Beg l w) : Shown w := by
 refine ⟨fun i hi g hg => ?_, fun x hx => ?_⟩
 ·rw [h.m9 i hi] at hg; cases hg
 ·rw [h.net] at hx; cases hx
theorem beg_noted {l : List Wlk} {w : Wld} (h : Beg l w) : Noted (a7U w.rows) w := by
 refine ⟨fun i hi => ?_, fun _ i hi => ?_⟩
 ·rw [h.notes] at hi
  exact absurd hi (Nat.not_lt_zero _)
 ·rw [h.notes, b7d]
  have := b5E (m8.1 h.ok).2.2.1 hi rfl
  unfold a7U rowAt
  rw [this, Int.toNat_natCast, Int.add_zero]
structure Inv (f : Int → Int) (w : Wld) : Prop where
 ok : o6 w = true
 fence : Fence w
 shown : Shown w
 mail : Mail w
 noted : Noted f w
theorem b6w {f : Int → Int} {w : Wld} (e : Evt) (h : Inv f w) : Inv f (m0 w e) := by
 have he : m0 w e = u4 w e := by simp [m0, h.ok]
 have hok := b7B e h.ok
 rw [he] at hok ⊢
 have hc := a4D w e
 exact ⟨hok, b0t h.ok h.fence hc, b7E h.ok h.fence h.shown hc, c3b h.ok h.fence h.mail hc, b8v h.ok h.noted hc⟩
theorem c1A {l : List Wlk} {w : Wld} (h : Beg l w) : Inv (a7U w.rows) w := ⟨h.ok, h.fence, beg_shown h, beg_mail h, beg_noted h⟩
theorem ran_inv {f : Int → Int} {w0 w : Wld} (h0 : Inv f w0) (h : Ran w0 w) : Inv f w := by
 induction h with
 | refl => exact h0
 | step e _ ih => exact b6w e ih
def ahO (w x : OW) : Bool := decide (x.wlk.id ≤ w.wlk.id)
def putO (l : List OW) (w : OW) : List OW := l.takeWhile (ahO w) ++ w :: l.dropWhile (ahO w)
def B1 (l : List OW) : List OW := l.foldl putO []
def oid (x : OW) : Int := x.wlk.id
def sumL {α : Type} (f : α → Int) (l : List α) : Int := (l.map f).sum
def sumK {α : Type} (f : α → Int) (l : List α) (k : Nat) : Int := sumL f (l.take k)
theorem a5p {α : Type} (f : α → Int) (l r : List α) : sumL f (l ++ r) = sumL f l + sumL f r := by simp [sumL]
theorem a5o {α : Type} (f : α → Int) (x : α) : sumL f [x] = f x := by simp [sumL]
theorem a6S {α : Type} (f : α → Int) (l : List α) : sumK f l 0 = 0 := by simp [sumK, sumL]
theorem a6T (t : RT) (f : t.ty → Int) {l : List t.ty} {k : Nat} (h : k < l.length) : sumK f l (k + 1) = sumK f l k + f (nth t l k) := by
 unfold sumK
 rw [a6Q t l k h, a5p, a5o]
theorem a8W {α : Type} (f : α → Int) {l : List α} {k : Nat} (h : k = l.length) : sumK f l k = sumL f l := by subst h; simp [sumK]
def fl (m : PMap) (st : List Sto) (c s : Int) : List Pcl := if b7 m c s = -1 then [] else y5 (ouX m st c s) (inX m st (b7 m c s) (1 - s))
def isWp (p : Pcl) : Bool := decide (p.kind = 1)
def flyO (l : List Pcl) : List OW := (l.filter isWp).map fun p => ⟨p.wlk, false⟩
def G9 (l : List Wlk) : List OW := l.map fun w => ⟨w, true⟩
def a0G (m : PMap) : List Nat := List.range m.cells.toNat
def a3z (m : PMap) : List (Nat × Nat) := (a0G m).flatMap fun c => [(c, 0), (c, 1)]
def allO (m : PMap) (st : List Sto) : List OW := (a0G m).flatMap (fun (c : Nat) => G9 (cX m st (c : Int)).wlks) ++ (a3z m).flatMap fun e => flyO (fl m st (e.1 : Int) (e.2 : Int))
def cC (p : Pcl) : Int := if p.kind = 1 then 0 else p.l7
def sumC (l : List Pcl) : Int := sumL cC l
def airN (m : PMap) (st : List Sto) (d s : Int) : Int := if b7 m d s = -1 then 0 else sumC (fl m st (b7 m d s) (1 - s))
def m7 (m : PMap) (st : List Sto) : One := ⟨m, B1 (allO m st), (a0G m).map fun (c : Nat) => (cX m st (c : Int)).ground, (a0G m).map fun (c : Nat) => [airN m st (c : Int) 0, airN m st (c : Int) 1]⟩
section
variable {m : PMap} {st st' : List Sto} {d : Int} {r : Rec}
theorem Wr.far (h : Wr m st st' d r) {c : Int} (h0 : 0 ≤ c) (hc : c ≠ d) : cX m st' c = cX m st c := h.other (by have := h.zero; omega)
end
end Go.Mo
