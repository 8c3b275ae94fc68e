/-
  Plain laws of the whole: parcels: what a record does to a cell's sides.
-/
import Derived.Test.YtkclfaldmghkeaaGreatM4
import Derived.Test.YtkclfaldmghkeaaGreatM1
set_option linter.unusedVariables false
set_option linter.unusedSimpArgs false
namespace Go.Mo
open Go.Sx
theorem a3c {m : PMap} {c : Cll} {o : Ord} (hc : q9 m c = true) (ho : J6 o = true) {s : Nat} (hs : s < 2) :
  (E6 m c o).c.ins = c.ins ∧ ((nth .pcls (E6 m c o).c.outs s = nth .pcls c.outs s ∧ @Eq Int (nth .int (E6 m c o).c.next s) (nth .int c.next s)) ∨
   ∃ p : Pcl, nth .pcls (E6 m c o).c.outs s = nth .pcls c.outs s ++ [p] ∧ @Eq Int p.n (nth .int c.next s) ∧ @Eq Int (nth .int (E6 m c o).c.next s) (nth .int c.next s + 1)) := by
 have hf := n6 hc
 have hoi := G6.1 ho
 have hdst : o.kind = 1 ∨ o.kind = 5 → o.dest.toNat < 2 := fun h => by omega
 clear hoi
 have triv : c.ins = c.ins ∧ ((nth .pcls c.outs s = nth .pcls c.outs s ∧ @Eq Int (nth .int c.next s) (nth .int c.next s)) ∨ ∃ p : Pcl, nth .pcls c.outs s = nth .pcls c.outs s ++ [p] ∧ @Eq Int p.n (nth .int c.next s) ∧ @Eq Int (nth .int c.next s) (nth .int c.next s + 1)) := ⟨rfl, .inl ⟨rfl, rfl⟩⟩
 have send : ∀ (d : Nat) (q : Pcl), d < 2 → ((nth .pcls (A7 c d q) s = nth .pcls c.outs s ∧ @Eq Int (nth .int (D8 c d) s) (nth .int c.next s)) ∨
   ∃ p : Pcl, nth .pcls (A7 c d q) s = nth .pcls c.outs s ++ [p] ∧ @Eq Int p.n (nth .int c.next s) ∧ @Eq Int (nth .int (D8 c d) s) (nth .int c.next s + 1)) := fun d q hd => by
  unfold A7 D8
  by_cases he : d = s
  ·subst he
   right
   exact ⟨_, l9 .pcls (by omega), rfl, l9 .int (by omega)⟩
  ·left
   exact ⟨n9 .pcls he, n9 .int he⟩
 unfold E6
 split
 ·exact triv
 simp only
 split
 ·exact triv
 split
 ·exact triv
 unfold L9
 split
 ·unfold V2
  split
  ·exact triv
  split
  ·exact triv
  split
  ·exact triv
  exact ⟨rfl, send _ _ (hdst (.inl (by assumption)))⟩
 split
 ·unfold V4
  split
  ·exact triv
  split
  ·exact triv
  split
  ·exact triv
  exact triv
 split
 ·unfold V5
  split
  ·exact triv
  split
  ·exact triv
  exact triv
 split
 ·unfold V3
  split
  ·exact triv
  split
  ·exact triv
  exact triv
 split
 ·unfold O2
  split
  ·exact triv
  split
  ·exact triv
  split
  ·exact triv
  exact ⟨rfl, send _ _ (hdst (.inr (by assumption)))⟩
 ·exact triv
theorem M8 {m : PMap} {c : Cll} {d : Nat} {p : Pcl} (h : (s7 m c d p).ok = true) : (s7 m c d p).c.outs = c.outs ∧ (s7 m c d p).c.next = c.next ∧ (s7 m c d p).c.ins = C0 c d ∧ @Eq Int p.n (nth .int c.ins d) := by
 unfold s7 at h ⊢
 split at h
 ·cases h
 rename_i h1
 rw [if_neg h1]
 have hn : @Eq Int p.n (nth .int c.ins d) := by
  rcases Decidable.em (p.n = nth .int c.ins d) with h2 | h2
  ·exact h2
  ·exact absurd (.inl h2) h1
 split at h
 ·rw [if_pos (by assumption)]
  exact ⟨rfl, rfl, rfl, hn⟩
 ·rename_i h2
  rw [if_neg h2]
  split at h
  ·cases h
  ·rename_i h3
   rw [if_neg h3]
   exact ⟨rfl, rfl, rfl, hn⟩
theorem U7 {c : Cll} {d : Nat} {n : Int} (h : (D3 c d n).ok = true) : (D3 c d n).c.outs = M1 c d n ∧ (D3 c d n).c.next = c.next ∧ (D3 c d n).c.ins = c.ins ∧ @LE.le Int _ n (nth .int c.next d) ∧ @LT.lt Int _ (nth .int c.next d - (nth .pcls c.outs d).length) n := by
 unfold D3 at h ⊢
 split at h
 ·cases h
 ·rename_i h1
  rw [if_neg h1]
  refine ⟨rfl, rfl, rfl, ?_, ?_⟩
  ·exact Int.not_lt.1 fun hh => h1 (.inl hh)
  ·exact Int.not_le.1 fun hh => h1 (.inr hh)
theorem X7 {m : PMap} {c : Cll} {r : Rec} (hk : r.kind = 1) (h : (j7 m c r).ok = true) : J3 c r.ord = true ∧ (j7 m c r).c = (E6 m c r.ord).c ∧ (j7 m c r).code = (E6 m c r.ord).code := by
 unfold j7 at h ⊢
 rw [if_pos hk] at h ⊢
 split at h
 ·rename_i hf
  rw [if_pos hf]
  exact ⟨hf, rfl, rfl⟩
 ·cases h
theorem U3 {m : PMap} {c : Cll} {r : Rec} (hk : r.kind = 2) (h : (j7 m c r).ok = true) : b6 m c.cell r.side ≠ -1 ∧ (s7 m c r.side.toNat r.pcl).ok = true ∧ (j7 m c r).c = (s7 m c r.side.toNat r.pcl).c := by
 unfold j7 at h ⊢
 rw [if_neg (show ¬ r.kind = 1 by omega)] at h ⊢
 by_cases hs : b6 m c.cell r.side = -1
 ·rw [if_pos hs] at h
  cases h
 ·rw [if_neg hs] at h ⊢
  rw [if_pos hk] at h ⊢
  exact ⟨hs, h, rfl⟩
theorem V9 {m : PMap} {c : Cll} {r : Rec} (hk : r.kind = 3) (h : (j7 m c r).ok = true) : b6 m c.cell r.side ≠ -1 ∧ (D3 c r.side.toNat r.n).ok = true ∧ (j7 m c r).c = (D3 c r.side.toNat r.n).c := by
 unfold j7 at h ⊢
 rw [if_neg (show ¬ r.kind = 1 by omega)] at h ⊢
 by_cases hs : b6 m c.cell r.side = -1
 ·rw [if_pos hs] at h
  cases h
 ·rw [if_neg hs] at h ⊢
  rw [if_neg (show ¬ r.kind = 2 by omega)] at h ⊢
  exact ⟨hs, h, rfl⟩
theorem X3 {m : PMap} {r : Rec} (h : D1 m r = true) : (r.kind = 1 ∧ J6 r.ord = true) ∨ (r.kind = 2 ∧ (r.side = 0 ∨ r.side = 1) ∧ H5 m r.pcl = true) ∨ (r.kind = 3 ∧ (r.side = 0 ∨ r.side = 1)) := by
 simp only [D1, decide_eq_true_eq] at h
 obtain ⟨_, h2, h3⟩ := h
 rw [L4] at h2
 rcases h2 with h2 | h2 | h2
 ·exact .inl ⟨h2.1, h2.2.1⟩
 ·exact .inr (.inl ⟨h2.1, h2.2.1, h3 h2.1⟩)
 ·exact .inr (.inr ⟨h2.1, h2.2.1⟩)
theorem c6K {m : PMap} {c : Cll} {r : Rec} (h : (j7 m c r).ok = false) : (j7 m c r).c = c := by
 unfold j7 at h ⊢
 by_cases k1 : r.kind = 1
 ·rw [if_pos k1] at h ⊢
  by_cases hf : J3 c r.ord = true
  ·rw [if_pos hf] at h
   cases h
  ·rw [if_neg hf]
 ·rw [if_neg k1] at h ⊢
  by_cases hs : b6 m c.cell r.side = -1
  ·rw [if_pos hs]
  ·rw [if_neg hs] at h ⊢
   by_cases k2 : r.kind = 2
   ·rw [if_pos k2] at h ⊢
    exact b9m h
   ·rw [if_neg k2] at h ⊢
    exact c3T h
theorem c2H {m : PMap} {c : Cll} {l : List Rec} (h : q9 m c = true) : ∀ {k : Nat}, l8 k (H8 m c l) = true → q9 m (r7 m c l k) = true := fun hk => a3D h hk
theorem b1W {m : PMap} {c : Cll} {r : Rec} (hc : q9 m c = true) (hr : D1 m r = true) {s : Nat} (hs : s < 2) : @LE.le Int _ (nth .int c.ins s) (nth .int (j7 m c r).c.ins s) := by
 have hf := n6 hc
 cases hok : (j7 m c r).ok with
 | false => rw [c6K hok]; exact Int.le_refl _
 | true =>
  rcases X3 hr with ⟨hk, ho⟩ | ⟨hk, hsd, hp⟩ | ⟨hk, hsd⟩
  ·rw [(X7 hk hok).2.1, (a3c hc ho hs).1]
   exact Int.le_refl _
  ·obtain ⟨h1, h2, h3⟩ := U3 hk hok
   rw [h3, (M8 h2).2.2.1]
   unfold C0
   by_cases he : r.side.toNat = s
   ·rw [he, l9 .int (by omega)]
    show @LE.le Int _ _ (_ + 1)
    generalize (nth .int c.ins s : Int) = a
    omega
   ·rw [n9 .int he]
    exact Int.le_refl _
  ·obtain ⟨h1, h2, h3⟩ := V9 hk hok
   rw [h3, (U7 h2).2.2.1]
   exact Int.le_refl _
theorem c5O {m : PMap} {s : Sto} (hs : x8 m s = true) {d : Nat} (hd : d < 2) : ∀ {j k : Nat}, k ≤ j → j ≤ s.recs.length → @LE.le Int _ (nth .int (r7 m s.base s.recs k).ins d) (nth .int (r7 m s.base s.recs j).ins d) := by
 have hh := u0.1 hs
 have hall := (j9 _ _).1 (b6a hh.2.2.2)
 intro j
 induction j with
 | zero => intro k hk _; rw [show k = 0 by omega]; exact Int.le_refl _
 | succ j ih =>
  intro k hk hj
  by_cases he : k = j + 1
  ·rw [he]; exact Int.le_refl _
  ·refine Int.le_trans (ih (k := k) (by omega) (by omega)) ?_
   have hfit := hall j (by omega)
   simp only [H8, Bool.and_eq_true] at hfit
   exact b1W (c2H hh.2.1 (k := j) ((j9 _ _).2 fun i hi => hall i (by omega))) hfit.1 hd
def cX (m : PMap) (st : List Sto) (c : Int) : Cll := p5 m (stAt st c)
def inX (m : PMap) (st : List Sto) (c s : Int) : Int := nth .int (cX m st c).ins s.toNat
def nxX (m : PMap) (st : List Sto) (c s : Int) : Int := nth .int (cX m st c).next s.toNat
def ouX (m : PMap) (st : List Sto) (c s : Int) : List Pcl := nth .pcls (cX m st c).outs s.toNat
def pfX (m : PMap) (st : List Sto) (c : Int) (k : Nat) : Cll := r7 m (stAt st c).base (stAt st c).recs k
structure Wr (m : PMap) (st st' : List Sto) (d : Int) (r : Rec) : Prop where
 zero : 0 ≤ d
 lt : d.toNat < st.length
 ok : x8 m (stAt st d) = true
 cell : (stAt st d).base.cell = d
 is : ∃ a, st' = st.set d.toNat ⟨a, (stAt st d).base, (stAt st d).recs ++ [r]⟩
 log : D1 m r = true
 fits : (j7 m (cX m st d) r).ok = true
theorem Wr.at {m : PMap} {st st' : List Sto} {d : Int} {r : Rec} (h : Wr m st st' d r) : (stAt st' d).base = (stAt st d).base ∧ (stAt st' d).recs = (stAt st d).recs ++ [r] := by
 obtain ⟨a, e⟩ := h.is
 rw [e, G8 h.lt, if_pos rfl]
 exact ⟨rfl, rfl⟩
theorem Wr.off {m : PMap} {st st' : List Sto} {d : Int} {r : Rec} (h : Wr m st st' d r) {c : Int} (hc : c.toNat ≠ d.toNat) : stAt st' c = stAt st c := by
 obtain ⟨a, e⟩ := h.is
 rw [e, G8 h.lt, if_neg hc]
theorem Wr.self {m : PMap} {st st' : List Sto} {d : Int} {r : Rec} (h : Wr m st st' d r) : cX m st' d = (j7 m (cX m st d) r).c := by
 have hh := u0.1 h.ok
 unfold cX p5
 rw [h.at.1, h.at.2]
 exact c2I hh.2.2.2 h.log h.fits
theorem Wr.other {m : PMap} {st st' : List Sto} {d : Int} {r : Rec} (h : Wr m st st' d r) {c : Int} (hc : c.toNat ≠ d.toNat) : cX m st' c = cX m st c := by
 unfold cX
 rw [h.off hc]
theorem Wr.cok {m : PMap} {st st' : List Sto} {d : Int} {r : Rec} (h : Wr m st st' d r) : q9 m (cX m st d) = true ∧ (cX m st d).cell = d := ⟨a2y h.ok, by unfold cX; rw [a0f, h.cell]⟩
theorem Wr.grow {m : PMap} {st st' : List Sto} {d : Int} {r : Rec} (h : Wr m st st' d r) : Grow m st st' := by
 obtain ⟨a, e⟩ := h.is
 rw [e]
 refine ⟨by simp, fun c => ?_, fun c => ?_⟩
 ·rw [G8 h.lt]
  split
  ·rename_i hh
   unfold stAt
   rw [hh]
  ·rfl
 ·rw [G8 h.lt]
  split
  ·rename_i hh
   refine ⟨[r], ?_⟩
   unfold stAt
   rw [hh]
  ·exact ⟨[], by simp⟩
structure Lsame (st st' : List Sto) : Prop where
 len : st'.length = st.length
 same : ∀ c : Int, (stAt st' c).base = (stAt st c).base ∧ (stAt st' c).recs = (stAt st c).recs
theorem Lsame.refl (st : List Sto) : Lsame st st := ⟨rfl, fun _ => ⟨rfl, rfl⟩⟩
theorem Lsame.cX {m : PMap} {st st' : List Sto} (h : Lsame st st') (c : Int) : cX m st' c = cX m st c := by
 unfold Mo.cX p5
 rw [(h.same c).1, (h.same c).2]
inductive Wrote (m : PMap) (s : Srv) (st st' : List Sto) (x : Msg) : Prop
 | no (h : Lsame st st')
 | yes (h : Wr m st st' x.cell (n3 x)) (hk : x.kind = 2 ∨ x.kind = 5 ∨ x.kind = 6) (hh : v5 s x.cell = true) (hs : (b9 s x.cell).state = cX m st x.cell)
   (hf : x.kind = 2 → o9 (cX m st x.cell).wlks x.ord.who = true ∧ (B3 (cX m st x.cell).wlks x.ord.who).seq < x.ord.seq)
theorem a2W {w : Wld} (hf : Fence w) {k : Nat} {x : Msg} {X : SH} (h : Heard w k x X) : Wrote w.map (nth .srv w.servers x.dest.toNat) w.stores X.stores x := by
 have hcs := a1I h.stos h.ok
 have he := h.eff
 generalize X.srv = s' at *
 generalize X.stores = st' at *
 cases he with
 | same => exact .no (.refl _)
 | ghost => exact .no (.refl _)
 | lost => exact .no (.refl _)
 | grant hu hk hn ha =>
  refine .no ⟨by simp, fun c => ?_⟩
  rw [G8 hcs.2.1]
  split
  ·rename_i hh
   unfold m9 stAt
   rw [hh]
   exact ⟨rfl, rfl⟩
  ·exact ⟨rfl, rfl⟩
 | write hu hk hh ha hc hl hr h1 h2 hff hp =>
  obtain ⟨hmem, hcc⟩ := D7 hh
  have hI := hf.hold _ h.lt _ hmem
  have hO : stAt w.stores (b9 (nth .srv w.servers x.dest.toNat) x.cell).state.cell = m9 w.stores x := by rw [hcc]; rfl
  have hst := hI.state
  rw [hO, hc] at hst
  simp only [Int.toNat_natCast] at hst
  rw [← a3o hcs.2.2.1] at hst
  have hst' : (b9 (nth .srv w.servers x.dest.toNat) x.cell).state = cX w.map w.stores x.cell := hst
  refine .yes ⟨hcs.1, hcs.2.1, hcs.2.2.1, hcs.2.2.2, ⟨_, rfl⟩, hr, h1⟩ hk hh hst' (fun hk2 => ?_)
  rw [← hst']
  exact hff hk2
def Sent (m : PMap) (st : List Sto) (c s : Int) (p : Pcl) : Prop := p.n < inX m st (b6 m c s) (1 - s) ∨ p ∈ ouX m st c s
structure Mail (w : Wld) : Prop where
 seq : ∀ c s, b6 w.map c s ≠ -1 → inX w.map w.stores (b6 w.map c s) (1 - s) ≤ nxX w.map w.stores c s ∧ nxX w.map w.stores c s - (ouX w.map w.stores c s).length ≤ inX w.map w.stores (b6 w.map c s) (1 - s)
 old : ∀ c s, b6 w.map c s ≠ -1 → ∀ k, k ≤ (stAt w.stores c).recs.length → ∀ p ∈ nth .pcls (pfX w.map w.stores c k).outs s.toNat, Sent w.map w.stores c s p
 pcl : ∀ x ∈ w.net, x.kind = 5 → Sent w.map w.stores (b6 w.map x.cell x.side) (1 - x.side) x.pcl
 got : ∀ x ∈ w.net, x.kind = 6 → x.n ≤ inX w.map w.stores (b6 w.map x.cell x.side) (1 - x.side)
theorem Lsame.in {m : PMap} {st st' : List Sto} (h : Lsame st st') (c s : Int) : inX m st' c s = inX m st c s := by unfold inX; rw [h.cX]
theorem Lsame.nx {m : PMap} {st st' : List Sto} (h : Lsame st st') (c s : Int) : nxX m st' c s = nxX m st c s := by unfold nxX; rw [h.cX]
theorem Lsame.ou {m : PMap} {st st' : List Sto} (h : Lsame st st') (c s : Int) : ouX m st' c s = ouX m st c s := by unfold ouX; rw [h.cX]
theorem Lsame.sent {m : PMap} {st st' : List Sto} (h : Lsame st st') {c s : Int} {p : Pcl} (hp : Sent m st c s p) : Sent m st' c s p := by
 unfold Sent
 rw [h.in, h.ou]
 exact hp
theorem G9 {m : PMap} {c s : Int} (h : b6 m c s ≠ -1) : s.toNat < 2 ∧ (1 - s).toNat < 2 ∧ 0 ≤ s ∧ s ≤ 1 := by
 have := (x6 h).1
 omega
theorem b4h {m : PMap} {c s : Int} (h : b6 m c s ≠ -1) : (b6 m c s).toNat ≠ c.toNat := by
 have := x6 h
 omega
theorem Wr.ins {m : PMap} {st st' : List Sto} {d : Int} {r : Rec} (h : Wr m st st' d r) (c : Int) {s : Int} (hs : s.toNat < 2) : inX m st c s ≤ inX m st' c s := by
 by_cases hc : c.toNat = d.toNat
 ·have e : cX m st c = cX m st d := by unfold cX stAt; rw [hc]
  have e' : cX m st' c = cX m st' d := by unfold cX stAt; rw [hc]
  unfold inX
  rw [e, e', h.self]
  exact b1W h.cok.1 h.log hs
 ·unfold inX
  rw [h.other hc]
  exact Int.le_refl _
theorem Wr.sent {m : PMap} {st st' : List Sto} {d : Int} {r : Rec} (h : Wr m st st' d r) (hack : r.kind = 3 → r.n ≤ inX m st (b6 m d r.side) (1 - r.side)) {c s : Int} (hs : b6 m c s ≠ -1) {p : Pcl} (hp : Sent m st c s p) : Sent m st' c s p := by
 have h2 := G9 hs
 have hmono := h.ins (b6 m c s) (s := 1 - s) h2.2.1
 rcases hp with hp | hp
 ·exact .inl (Int.lt_of_lt_of_le hp hmono)
 ·by_cases hc : c.toNat = d.toNat
  ·have hcd : c = d := by
    have := x6 hs
    have := h.zero
    omega
   subst hcd
   have hok := h.fits
   have hcf := n6 h.cok.1
   unfold ouX at hp
   rcases X3 h.log with ⟨hk, ho⟩ | ⟨hk, hsd, hpo⟩ | ⟨hk, hsd⟩
   ·right
    unfold ouX
    rw [h.self, (X7 hk hok).2.1]
    rcases (a3c (m := m) h.cok.1 ho h2.1).2 with ⟨e, _⟩ | ⟨q, e, _⟩
    ·rw [e]; exact hp
    ·rw [e]; exact List.mem_append_left _ hp
   ·right
    unfold ouX
    obtain ⟨g1, g2, g3⟩ := U3 hk hok
    rw [h.self, g3, (M8 g2).1]
    exact hp
   ·obtain ⟨g1, g2, g3⟩ := V9 hk hok
    by_cases he : r.side.toNat = s.toNat
    ·have hes : r.side = s := by omega
     have hn := hack hk
     rw [hes] at hn
     by_cases hpn : r.n ≤ p.n
     ·right
      unfold ouX
      rw [h.self, g3, (U7 g2).1]
      unfold M1
      rw [he, l9 .pcls (by omega)]
      exact List.mem_filter.2 ⟨hp, by simpa using hpn⟩
     ·left
      omega
    ·right
     unfold ouX
     rw [h.self, g3, (U7 g2).1]
     unfold M1
     rw [n9 .pcls he]
     exact hp
  ·right
   unfold ouX
   rw [h.other hc]
   exact hp
theorem b2F {m : PMap} {l : List Pcl} {n : Int} (h : s4 m l n = true) {i : Nat} (hi : i < l.length) : (nth .pcl l i).n = n - l.length + i := by
 simp only [s4, Bool.and_eq_true] at h
 have := (j9 _ _).1 h.2 i hi
 simp only [a2n, Bool.and_eq_true, decide_eq_true_eq] at this
 exact this.2
theorem Wr.seq {m : PMap} {st st' : List Sto} {d : Int} {r : Rec} (h : Wr m st st' d r) (hack : r.kind = 3 → r.n ≤ inX m st (b6 m d r.side) (1 - r.side)) (hin : r.kind = 2 → Sent m st (b6 m d r.side) (1 - r.side) r.pcl)
  (hall : ∀ c : Int, 0 ≤ c → c < m.cells → q9 m (cX m st c) = true)
  {c s : Int} (hs : b6 m c s ≠ -1) (hq : inX m st (b6 m c s) (1 - s) ≤ nxX m st c s ∧ nxX m st c s - (ouX m st c s).length ≤ inX m st (b6 m c s) (1 - s)) :
  inX m st' (b6 m c s) (1 - s) ≤ nxX m st' c s ∧ nxX m st' c s - (ouX m st' c s).length ≤ inX m st' (b6 m c s) (1 - s) := by
 have h2 := G9 hs
 have hb := x6 hs
 have hfar := b4h hs
 have hok := h.fits
 have hcf := n6 h.cok.1
 by_cases hc : c.toNat = d.toNat
 ·have hcd : c = d := by have := h.zero; omega
  subst hcd
  have e1 : inX m st' (b6 m c s) (1 - s) = inX m st (b6 m c s) (1 - s) := by unfold inX; rw [h.other hfar]
  rw [e1]
  unfold nxX ouX at hq ⊢
  rw [h.self]
  rcases X3 h.log with ⟨hk, ho⟩ | ⟨hk, hsd, hpo⟩ | ⟨hk, hsd⟩
  ·rw [(X7 hk hok).2.1]
   rcases (a3c (m := m) h.cok.1 ho h2.1).2 with ⟨e, e'⟩ | ⟨q, e, _, e'⟩
   ·rw [e, e']; exact hq
   ·rw [e, e', List.length_append, List.length_singleton]
    generalize (nth .int (cX m st c).next s.toNat : Int) = N at *
    omega
  ·obtain ⟨g1, g2, g3⟩ := U3 hk hok
   rw [g3, (M8 g2).1, (M8 g2).2.1]
   exact hq
  ·obtain ⟨g1, g2, g3⟩ := V9 hk hok
   obtain ⟨r1, r2, r3, r4, r5⟩ := U7 g2
   rw [g3, r1, r2]
   unfold M1
   by_cases he : r.side.toNat = s.toNat
   ·have hes : r.side = s := by omega
    have hn := hack hk
    rw [hes] at hn
    rw [he] at r4 r5 ⊢
    rw [l9 .pcls (by omega)]
    have hl := (C2 h.cok.1 h2.1).2.2.2
    have hd := a5m (x := r.n) hl (by
     generalize (nth .int (cX m st c).next s.toNat : Int) = N at *
     omega)
    rw [hd, List.length_drop]
    refine ⟨hq.1, ?_⟩
    generalize (nth .int (cX m st c).next s.toNat : Int) = N at *
    omega
   ·rw [n9 .pcls he]
    exact hq
 ·have e1 : nxX m st' c s = nxX m st c s := by unfold nxX; rw [h.other hc]
  have e2 : ouX m st' c s = ouX m st c s := by unfold ouX; rw [h.other hc]
  rw [e1, e2]
  by_cases hc2 : (b6 m c s).toNat = d.toNat
  ·have hcd : b6 m c s = d := by have := h.zero; omega
   rw [hcd] at hq ⊢
   unfold inX at hq ⊢
   rw [h.self]
   rcases X3 h.log with ⟨hk, ho⟩ | ⟨hk, hsd, hpo⟩ | ⟨hk, hsd⟩
   ·rw [(X7 hk hok).2.1, (a3c (m := m) h.cok.1 ho h2.2.1).1]
    exact hq
   ·obtain ⟨g1, g2, g3⟩ := U3 hk hok
    obtain ⟨r1, r2, r3, r4⟩ := M8 g2
    rw [g3, r3]
    unfold C0
    by_cases he : r.side.toNat = (1 - s).toNat
    ·have hes : r.side = 1 - s := by omega
     rw [he] at r4 ⊢
     rw [l9 .int (by omega)]
     have hS := hin hk
     rw [hes, ← hcd, hb.2.2.2.2.2.2.1] at hS
     have hcs : 1 - (1 - s) = s := by omega
     rw [hcs] at hS
     unfold Sent at hS
     have hp : r.pcl ∈ ouX m st c s := by
      rcases hS with h3 | h3
      ·exfalso
       rw [hcd] at h3
       unfold inX at h3
       generalize (nth .int (cX m st d).ins (1 - s).toNat : Int) = I at *
       omega
      ·exact h3
     have hl := (C2 (hall c hb.2.2.1 hb.2.2.2.1) h2.1).2.2.2
     unfold ouX at hp
     obtain ⟨i, hi, he2⟩ := K7 .pcl hp
     have hlt := b2F hl hi
     rw [he2] at hlt
     unfold nxX ouX at hq ⊢
     show @LE.le Int _ (_ + 1) _ ∧ @LE.le Int _ _ (_ + 1)
     generalize (nth .int (cX m st d).ins (1 - s).toNat : Int) = I at *
     generalize (nth .int (cX m st c).next s.toNat : Int) = N at *
     omega
    ·rw [n9 .int he]
     exact hq
   ·obtain ⟨g1, g2, g3⟩ := V9 hk hok
    rw [g3, (U7 g2).2.2.1]
    exact hq
  ·have e3 : inX m st' (b6 m c s) (1 - s) = inX m st (b6 m c s) (1 - s) := by unfold inX; rw [h.other hc2]
   rw [e3]
   exact hq
theorem c2s {m : PMap} {s : Srv} {st : List Sto} {t : Arb} {v : Int} {x z : Msg} (hv : a3B m s st t v x) (hz : z ∈ (n5 m s st t x).out) (hk : z.kind = 6) :
  x.kind = 5 ∧ v5 s x.cell = true ∧ z.cell = b6 m x.cell x.side ∧ z.side = 1 - x.side ∧
  ((@Eq Int z.n (nth .int (b9 s x.cell).state.ins x.side.toNat) ∧ (n5 m s st t x).stores = st) ∨
   (@Eq Int z.n (nth .int (b9 s x.cell).state.ins x.side.toNat + 1) ∧ (s6 m (b9 s x.cell) (m9 st x) (n3 x)).n = 1 ∧ (n5 m s st t x).stores = st.set x.cell.toNat ⟨(m9 st x).age, (m9 st x).base, (m9 st x).recs ++ [n3 x]⟩)) := by
 obtain ⟨_, _, hall, hsort⟩ := A6.1 hv.1
 unfold n5 at hz ⊢
 by_cases hu0 : s.up = false ∨ x.dest = -1
 ·rw [if_pos hu0] at hz
  cases hz
 rw [if_neg hu0] at hz ⊢
 by_cases k1 : x.kind = 1
 ·rw [if_pos k1] at hz
  exfalso
  unfold I0 at hz
  split at hz
  ·cases hz
  ·split at hz <;> cases hz
 rw [if_neg k1] at hz ⊢
 by_cases k7 : x.kind = 7
 ·rw [if_pos k7] at hz
  cases hz
 rw [if_neg k7] at hz ⊢
 by_cases kh : v5 s x.cell = false
 ·rw [if_pos kh] at hz
  cases hz
 rw [if_neg kh] at hz ⊢
 have hh : v5 s x.cell = true := by simpa using kh
 by_cases k2 : x.kind = 2
 ·rw [if_pos k2] at hz
  exfalso
  unfold R4 at hz
  simp only at hz
  split at hz
  ·simp only [List.mem_singleton] at hz
   subst hz
   exact absurd (show (4 : Int) = 6 from hk) (by decide)
  ·split at hz
   ·cases hz
   ·split at hz
    ·simp only at hz
     split at hz
     ·cases hz
     ·simp only [List.mem_singleton] at hz
      subst hz
      exact absurd (show (3 : Int) = 6 from hk) (by decide)
    ·simp only at hz
     split at hz
     ·simp only [List.mem_singleton] at hz
      subst hz
      exact absurd (show (3 : Int) = 6 from hk) (by decide)
     ·cases hz
 rw [if_neg k2] at hz ⊢
 by_cases k5 : x.kind = 5
 ·rw [if_pos k5] at hz ⊢
  have er : n3 x = ⟨2, s5, x.side, x.pcl, 0⟩ := by rw [n3, if_neg k2, if_pos k5]
  have got : ∀ n : Int, z ∈ O4 m t x n → z.cell = b6 m x.cell x.side ∧ z.side = 1 - x.side ∧ z.n = n := fun n h => by
   unfold O4 at h
   split at h
   ·cases h
   ·simp only [List.mem_singleton] at h
    subst h
    exact ⟨rfl, rfl, rfl⟩
  unfold R3 at hz ⊢
  simp only at hz ⊢
  by_cases hq : x.pcl.n < nth .int (b9 s x.cell).state.ins x.side.toNat
  ·rw [if_pos hq] at hz ⊢
   obtain ⟨g1, g2, g3⟩ := got _ hz
   exact ⟨k5, hh, g1, g2, .inl ⟨g3, rfl⟩⟩
  ·rw [if_neg hq] at hz ⊢
   rw [← er] at hz ⊢
   simp only at hz ⊢
   rcases a7k (m := m) (s := s) (st := st) (cell := x.cell) (r := n3 x) hsort with ⟨w1, w2, w3⟩ | ⟨w1, _, w3⟩ | ⟨w1, _⟩
   ·rw [if_pos w1] at hz
    obtain ⟨g1, g2, g3⟩ := got _ hz
    refine ⟨k5, hh, g1, g2, .inr ⟨g3, w2, ?_⟩⟩
    rw [w3]
    rfl
   ·rw [w1] at hz
    simp only [show ¬ ((2 : Int) = 1) by decide, if_false] at hz
    cases hz
   ·rw [if_neg w1] at hz
    cases hz
 ·rw [if_neg k5] at hz
  cases hz
theorem c3s {m : PMap} {s : Srv} {t : Arb} {cell : Int} {z : Msg} (h : z ∈ A8 m s t cell) (hk : z.kind = 5) : ∃ sd : Int, (sd = 0 ∨ sd = 1) ∧ v5 s cell = true ∧ z.cell = b6 m cell sd ∧ z.side = 1 - sd ∧ b6 m cell sd ≠ -1 ∧ z.pcl ∈ nth .pcls (b9 s cell).state.outs sd.toNat := by
 unfold A8 at h
 split at h
 ·rename_i hh
  have side : ∀ sd, (sd = 0 ∨ sd = 1) → z ∈ z6 m t (b9 s cell) cell sd → ∃ sd : Int, (sd = 0 ∨ sd = 1) ∧ v5 s cell = true ∧ z.cell = b6 m cell sd ∧ z.side = 1 - sd ∧ b6 m cell sd ≠ -1 ∧ z.pcl ∈ nth .pcls (b9 s cell).state.outs sd.toNat := fun sd hsd hz => by
   unfold z6 at hz
   simp only at hz
   split at hz
   ·cases hz
   ·rename_i hn
    rcases List.mem_append.1 hz with hz | hz
    ·obtain ⟨p, hp, rfl⟩ := List.mem_map.1 hz
     exact ⟨sd, hsd, hh, rfl, rfl, fun h => hn (.inl h), List.mem_of_mem_take hp⟩
    ·obtain ⟨_, _, rfl⟩ := List.mem_map.1 hz
     cases hk
  rcases List.mem_append.1 h with h | h
  ·exact side _ (.inl rfl) h
  ·exact side _ (.inr rfl) h
 ·cases h
theorem a3g {w : Wld} (hok : p9 w = true) {c : Int} (h0 : 0 ≤ c) (h1 : c < w.map.cells) : c.toNat < w.stores.length ∧ x8 w.map (stAt w.stores c) = true ∧ (stAt w.stores c).base.cell = c ∧ q9 w.map (cX w.map w.stores c) = true := by
 obtain ⟨_, h2, _⟩ := n7.1 hok
 obtain ⟨_, g2, g3⟩ := B4.1 h2
 have hl : c.toNat < w.stores.length := by omega
 have := g3 _ hl
 exact ⟨hl, this.1, by unfold stAt; rw [this.2]; omega, a2y this.1⟩
theorem a2U {w : Wld} (hf : Fence w) {i : Nat} (hi : i < w.servers.length) {h : Hld} (hm : h ∈ (nth .srv w.servers i).holds) : h.state = pfX w.map w.stores h.state.cell h.count.toNat ∧ h.count.toNat ≤ (stAt w.stores h.state.cell).recs.length := by
 have hI := hf.hold i hi h hm
 exact ⟨hI.state, by have := hI.count; have := hI.zero; omega⟩
theorem b2E {m : PMap} {st : List Sto} {c : Int} (h : x8 m (stAt st c) = true) : pfX m st c (stAt st c).recs.length = cX m st c := (a3o h).symm
theorem c2d {w w' : Wld} (hok : p9 w = true) (hf : Fence w) (hm : Mail w) (hs : StepC w w') : Mail w' := by
 obtain ⟨h1, h2, h3, h4, h5, h6, h7, h8, h9⟩ := n7.1 hok
 have quiet : ∀ {w' : Wld}, w'.map = w.map → w'.stores = w.stores → (∀ x ∈ w'.net, x.kind = 5 ∨ x.kind = 6 → x ∈ w.net) → Mail w' := fun {w'} e1 e2 e3 => by
  refine ⟨?_, ?_, fun x hx hk => ?_, fun x hx hk => ?_⟩
  ·rw [e1, e2]; exact hm.seq
  ·rw [e1, e2]; exact hm.old
  ·rw [e1, e2]; exact hm.pcl x (e3 x hx (.inl hk)) hk
  ·rw [e1, e2]; exact hm.got x (e3 x hx (.inr hk)) hk
 cases hs with
 | same => exact hm
 | grant cell server hgr =>
  refine quiet rfl rfl fun x hx hk => ?_
  rcases C7 hx with hx | hx
  ·exact hx
  ·simp only [List.mem_singleton] at hx
   subst hx
   rcases hk with hk | hk <;> cases hk
 | ask => exact quiet rfl rfl fun x hx _ => hx
 | say who hs =>
  refine quiet rfl rfl fun x hx hk => ?_
  rcases C7 hx with hx | hx
  ·exact hx
  ·simp only [List.mem_singleton] at hx
   subst hx
   rw [a4U hs] at hk
   rcases hk with hk | hk <;> cases hk
 | gate i hi hd => exact quiet rfl rfl fun x hx _ => a3e (i := i) hx
 | lose i hi => exact quiet rfl rfl fun x hx _ => a3e hx
 | twice i hi =>
  refine quiet rfl rfl fun x hx hk => ?_
  rcases C7 hx with hx | hx
  ·exact hx
  ·simp only [List.mem_singleton] at hx
   subst hx
   exact r8 .msg hi
 | fall i hi => exact quiet rfl rfl fun x hx _ => hx
 | rise i hi hu => exact quiet rfl rfl fun x hx _ => hx
 | tick i hi cell =>
  refine ⟨hm.seq, hm.old, fun x hx hk => ?_, fun x hx hk => ?_⟩
  ·rcases C7 hx with hx | hx
   ·exact hm.pcl x hx hk
   ·obtain ⟨sd, hsd, hh, e1, e2, hne, hp⟩ := c3s hx hk
    obtain ⟨hmem, hcc⟩ := D7 hh
    obtain ⟨p1, p2⟩ := a2U hf hi hmem
    have hb := x6 hne
    rw [e1, e2]
    show Sent w.map w.stores (b6 w.map (b6 w.map cell sd) (1 - sd)) (1 - (1 - sd)) x.pcl
    rw [hb.2.2.2.2.2.2.1, show 1 - (1 - sd) = sd by omega]
    rw [p1, hcc] at hp
    rw [hcc] at p2
    exact hm.old cell sd hne _ p2 _ hp
  ·rcases C7 hx with hx | hx
   ·exact hm.got x hx hk
   ·have := a6o hx
    omega
 | hear i hi hd =>
  obtain ⟨X, hX, e⟩ := heard hok hi hd
  rw [e]
  generalize nth .msg w.net i = x at *
  have hv : a3B w.map (nth .srv w.servers x.dest.toNat) w.stores w.table w.servers.length x := ⟨hX.srv, hX.stos, hX.arb, hX.ok⟩
  have hw := a2W hf hX
  have hcs := a1I hX.stos hX.ok
  have hmo := a9i hX.ok
  have hack : (n3 x).kind = 3 → (x.kind = 2 ∨ x.kind = 5 ∨ x.kind = 6) → (n3 x).n ≤ inX w.map w.stores (b6 w.map x.cell (n3 x).side) (1 - (n3 x).side) := fun hk hkk => by
   have k6 : x.kind = 6 := by
    rcases hkk with h0 | h0 | h0
    ·rw [n3, if_pos h0] at hk; cases hk
    ·rw [n3, if_neg (by omega), if_pos h0] at hk; cases hk
    ·exact h0
   have er : n3 x = ⟨3, s5, x.side, u5, x.n⟩ := by rw [n3, if_neg (by omega), if_neg (by omega)]
   rw [er]
   exact hm.got x hX.mem k6
  have hin : (n3 x).kind = 2 → (x.kind = 2 ∨ x.kind = 5 ∨ x.kind = 6) → Sent w.map w.stores (b6 w.map x.cell (n3 x).side) (1 - (n3 x).side) (n3 x).pcl := fun hk hkk => by
   have k5 : x.kind = 5 := by
    rcases hkk with h0 | h0 | h0
    ·rw [n3, if_pos h0] at hk; cases hk
    ·exact h0
    ·rw [n3, if_neg (by omega), if_neg (by omega)] at hk; cases hk
   have er : n3 x = ⟨2, s5, x.side, x.pcl, 0⟩ := by rw [n3, if_neg (by omega), if_pos k5]
   rw [er]
   exact hm.pcl x hX.mem k5
  have hsent : ∀ {c s : Int}, b6 w.map c s ≠ -1 → ∀ {p : Pcl}, Sent w.map w.stores c s p → Sent w.map X.stores c s p := fun {c s} hne {p} hp => by
   cases hw with
   | no h => exact h.sent hp
   | yes h hk hh hs hff => exact h.sent (fun k3 => hack k3 hk) hne hp
  have hins : ∀ (c : Int) {s : Int}, s.toNat < 2 → inX w.map w.stores c s ≤ inX w.map X.stores c s := fun c {s} hs => by
   cases hw with
   | no h => rw [h.in]; exact Int.le_refl _
   | yes h hk hh hs2 hff => exact h.ins c hs
  refine ⟨fun c s hne => ?_, fun c s hne k hk p hp => ?_, fun z hz hk => ?_, fun z hz hk => ?_⟩
  ·cases hw with
   | no h =>
    simp only [u4]
    rw [h.in, h.nx, h.ou]
    exact hm.seq c s hne
   | yes h hk hh hs hff => exact h.seq (fun k3 => hack k3 hk) (fun k2 => hin k2 hk) (fun c h0 h1 => (a3g hok h0 h1).2.2.2) hne (hm.seq c s hne)
  ·simp only [u4] at hk hp ⊢
   cases hw with
   | no h =>
    unfold pfX at hp
    rw [(h.same c).1, (h.same c).2] at hp
    rw [(h.same c).2] at hk
    exact hsent hne (hm.old c s hne k hk p hp)
   | yes h hkk hh hs hff =>
    have hb := x6 hne
    by_cases hc : c.toNat = x.cell.toNat
    ·have hcd : c = x.cell := by omega
     subst hcd
     rw [h.at.2, List.length_append, List.length_singleton] at hk
     by_cases hkl : k ≤ (stAt w.stores x.cell).recs.length
     ·refine hsent hne (hm.old _ s hne k hkl p ?_)
      unfold pfX at hp ⊢
      rw [h.at.1, h.at.2, N8 hkl] at hp
      exact hp
     ·
      right
      have hkk2 : k = (stAt X.stores x.cell).recs.length := by rw [h.at.2, List.length_append, List.length_singleton]; omega
      have hg := h.grow
      have hsok : x8 w.map (stAt X.stores x.cell) = true := by
       have hok2 := (c6a hX.srv hX.stos hX.ok hX.eff).2.1
       have := (B4.1 hok2).2.2 x.cell.toNat (by rw [hg.len]; exact hcs.2.1)
       exact this.1
      rw [hkk2, b2E hsok] at hp
      exact hp
    ·unfold pfX at hp
     rw [h.off hc] at hp hk
     exact hsent hne (hm.old c s hne k hk p hp)
  ·rcases C7 hz with hz | hz
   ·have hzn := List.mem_of_mem_eraseIdx hz
    have hzs := a1q (h8 z hzn).1 (.inl hk)
    have hb := x6 hzs
    refine hsent ?_ (hm.pcl z hzn hk)
    show b6 w.map (b6 w.map z.cell z.side) (1 - z.side) ≠ -1
    rw [hb.2.2.2.2.2.2.1]
    omega
   ·rw [hX.is] at hz
    have := a5p hz
    omega
  ·rcases C7 hz with hz | hz
   ·have hzn := List.mem_of_mem_eraseIdx hz
    have hzs := a1q (h8 z hzn).1 (.inr (.inl hk))
    exact Int.le_trans (hm.got z hzn hk) (hins _ (G9 hzs).2.1)
   ·rw [hX.is] at hz
    obtain ⟨k5, hh, e1, e2, hcase⟩ := c2s hv hz hk
    have hzs := a1q hX.ok (.inl k5)
    have hb := x6 hzs
    have h2 := G9 hzs
    obtain ⟨hmem, hcc⟩ := D7 hh
    have hI := hf.hold _ hX.lt _ hmem
    obtain ⟨p1, p2⟩ := a2U hf hX.lt hmem
    have hco := a3g hok hmo.1 hmo.2
    show z.n ≤ inX w.map X.stores (b6 w.map z.cell z.side) (1 - z.side)
    rw [e1, e2, hb.2.2.2.2.2.2.1, show 1 - (1 - x.side) = x.side by omega]
    have hfi := c5O hco.2.1 h2.1 (j := (stAt w.stores x.cell).recs.length) (k := (b9 (nth .srv w.servers x.dest.toNat) x.cell).count.toNat) (by rw [hcc] at p2; exact p2) (Nat.le_refl _)
    rw [hcc] at p1
    have hpre : @LE.le Int _ (nth .int (b9 (nth .srv w.servers x.dest.toNat) x.cell).state.ins x.side.toNat) (inX w.map w.stores x.cell x.side) := by
     rw [p1]
     unfold inX
     rw [← b2E hco.2.1]
     exact hfi
    rcases hcase with ⟨g1, g2⟩ | ⟨g1, g2, g3⟩
    ·rw [g1]
     exact Int.le_trans hpre (hins _ h2.1)
    ·
     obtain ⟨w1, w2, w3, w4, w5, w6, w7, w8, w9, w10, w11⟩ := a8m g2
     have hX2 : X.stores = w.stores.set x.cell.toNat ⟨(m9 w.stores x).age, (m9 w.stores x).base, (m9 w.stores x).recs ++ [n3 x]⟩ := by rw [hX.is]; exact g3
     have hW : Wr w.map w.stores X.stores x.cell (n3 x) := ⟨hcs.1, hcs.2.1, hcs.2.2.1, hcs.2.2.2, ⟨_, hX2⟩, w6, w7⟩
     have er : n3 x = ⟨2, s5, x.side, x.pcl, 0⟩ := by rw [n3, if_neg (by omega), if_pos k5]
     have hcount : (b9 (nth .srv w.servers x.dest.toNat) x.cell).count.toNat = (stAt w.stores x.cell).recs.length := by
      have : (m9 w.stores x) = stAt w.stores x.cell := rfl
      rw [this] at w4
      omega
     have hst : (b9 (nth .srv w.servers x.dest.toNat) x.cell).state = cX w.map w.stores x.cell := by
      rw [p1, hcount, b2E hco.2.1]
     obtain ⟨r1, r2, r3⟩ := U3 (by rw [er]) w7
     have hri := M8 r2
     rw [g1]
     unfold inX
     rw [hW.self]
     show @LE.le Int _ (_ + 1) _
     have e5 : (j7 w.map (cX w.map w.stores x.cell) (n3 x)).c = (s7 w.map (cX w.map w.stores x.cell) (n3 x).side.toNat (n3 x).pcl).c := r3
     have hri' : (s7 w.map (cX w.map w.stores x.cell) (n3 x).side.toNat (n3 x).pcl).c.ins = C0 (cX w.map w.stores x.cell) (n3 x).side.toNat := hri.2.2.1
     rw [e5, hri', hst, er]
     have hcf := n6 hco.2.2.2
     unfold C0
     simp only
     rw [l9 .int (by omega)]
     exact Int.le_refl _
def cntN (l : List Note) (who : Int) : Int := ((l.filter fun n => decide (n.who = who)).length : Int)
theorem c6A (who : Int) : cntN [] who = 0 := rfl
theorem c6B (l : List Note) (n : Note) (who : Int) : cntN (l ++ [n]) who = cntN l who + (if n.who = who then 1 else 0) := by
 unfold cntN
 rw [List.filter_append, List.length_append]
 by_cases h : n.who = who
 ·simp [h]
 ·simp [h]
structure Noted (f : Int → Int) (w : Wld) : Prop where
 num : ∀ i, i < w.notes.length → (nth .note w.notes i).seq = f (nth .note w.notes i).who + 1 + cntN (w.notes.take i) (nth .note w.notes i).who
 row : w.notes.length < 150 → ∀ i, i < w.rows.length → (nth .row w.rows i).seq = f (nth .row w.rows i).who + cntN w.notes (nth .row w.rows i).who
theorem ask_seq (l : List Row) (who kind dest n : Int) (i : Nat) : (L8 l who kind dest n).b.length = l.length ∧ (nth .row (L8 l who kind dest n).b i).who = (nth .row l i).who ∧ (nth .row (L8 l who kind dest n).b i).seq = (nth .row l i).seq := by
 unfold L8
 split
 ·rename_i h
  have hlt := a0S l who
  have hj : (k8 l who).toNat < l.length := by omega
  refine ⟨List.length_set, ?_⟩
  simp only
  rw [H0 .row hj]
  split
  ·rename_i e; subst e; exact ⟨rfl, rfl⟩
  ·exact ⟨rfl, rfl⟩
 ·exact ⟨rfl, rfl, rfl⟩
theorem c5E {m : PMap} {l : List Row} {v : Int} {x : Msg} (h1 : y6 m l = true) (h2 : s9 m v x = true) (i : Nat) :
  (nth .row (y0 m l x).b i).who = (nth .row l i).who ∧
  ((y0 m l x).ok = false → (nth .row (y0 m l x).b i).seq = (nth .row l i).seq) ∧
  ((y0 m l x).ok = true → i < l.length → (nth .row (y0 m l x).b i).seq = (nth .row l i).seq + (if x.ord.who = (nth .row l i).who then 1 else 0)) := by
 have hlt := a0S l x.ord.who
 unfold y0
 simp only
 split
 ·rename_i h
  have hj : (k8 l x.ord.who).toNat < l.length := by omega
  have hw := b2y h.1
  have hro := (a6X h1 hj).1
  have hbusy : (nth .row l (k8 l x.ord.who).toNat).busy = true := h.2.1
  have hord : (nth .row l (k8 l x.ord.who).toNat).ord = x.ord := h.2.2
  simp only [R7, decide_eq_true_eq] at hro
  have hseq := (hro.2.2.2.2.2.2.2.2.2 hbusy).2.2
  rw [hord] at hseq
  split
  ·rw [H0 .row hj]
   refine ⟨?_, fun h => by simp at h, fun _ hi => ?_⟩
   ·split
    ·rename_i e; subst e; rfl
    ·rfl
   ·split
    ·rename_i e; subst e
     rw [if_pos hw.symm]
     exact hseq
    ·rename_i e
     have hne : ¬ x.ord.who = (nth .row l i).who := fun hh => e (by have := b4N h1 hi hh.symm; omega)
     rw [if_neg hne]
     exact (Int.add_zero _).symm
  ·split
   ·rw [H0 .row hj]
    refine ⟨?_, fun _ => ?_, fun h => by simp at h⟩
    ·split
     ·rename_i e; subst e; rfl
     ·rfl
    ·split
     ·rename_i e; subst e; rfl
     ·rfl
   ·exact ⟨rfl, fun _ => rfl, fun h => by simp at h⟩
 ·exact ⟨rfl, fun _ => rfl, fun h => by simp at h⟩
theorem a8t {l : List Note} {n : Note} {i : Nat} (h : i ≤ l.length) : (l ++ [n]).take i = l.take i := by
 rw [List.take_append_of_le_length h]
theorem b7y {f : Int → Int} {w w' : Wld} (hok : p9 w = true) (hn : Noted f w) (hs : StepC w w') : Noted f w' := by
 obtain ⟨h1, h2, h3, h4, h5, h6, h7, h8, h9⟩ := n7.1 hok
 have quiet : ∀ {w' : Wld}, w'.notes = w.notes → w'.rows = w.rows → Noted f w' := fun {w'} e1 e2 => by
  refine ⟨?_, ?_⟩
  ·rw [e1]; exact hn.num
  ·rw [e1, e2]; exact hn.row
 cases hs with
 | same => exact hn
 | grant cell server hg => exact quiet rfl rfl
 | ask who what dest n =>
  refine ⟨hn.num, fun hl i hi => ?_⟩
  have ha := ask_seq w.rows who what dest n i
  have hi' : i < w.rows.length := by rw [← ha.1]; exact hi
  show (nth .row (L8 w.rows who what dest n).b i).seq = f (nth .row (L8 w.rows who what dest n).b i).who + cntN w.notes (nth .row (L8 w.rows who what dest n).b i).who
  rw [ha.2.1, ha.2.2]
  exact hn.row hl i hi'
 | say who hs => exact quiet rfl rfl
 | gate i hi hd =>
  have hx := (h8 _ (r8 .msg hi)).1
  generalize nth .msg w.net i = x at hx hd
  have hq := fun j => c5E h3 hx j
  have hk := a9A h3 hx
  show Noted f (a2l (wCut w i) x)
  by_cases hc : (y0 w.map w.rows x).ok = true ∧ w.notes.length < 150
  ·have hw : 0 ≤ k8 w.rows x.ord.who := (hk.2.2 hc.1).2.1
   have hpl := a0S w.rows x.ord.who
   have hj : (k8 w.rows x.ord.who).toNat < w.rows.length := by omega
   have hwho := b2y hw
   have hold := hn.row hc.2 _ hj
   have hro := (a6X h3 hj).1
   simp only [R7, decide_eq_true_eq] at hro
   have hbusy : (nth .row w.rows (k8 w.rows x.ord.who).toNat).busy = true := (hk.2.2 hc.1).2.2.1
   have hord : (nth .row w.rows (k8 w.rows x.ord.who).toNat).ord = x.ord := (hk.2.2 hc.1).2.2.2.1
   have hseq := (hro.2.2.2.2.2.2.2.2.2 hbusy).2.2
   rw [hord] at hseq
   rw [hwho] at hold
   have en : (a2l (wCut w i) x).notes = w.notes ++ [⟨x.ord.who, x.ord.seq, x.n⟩] := by
    unfold a2l
    exact if_pos hc
   have er : (a2l (wCut w i) x).rows = (y0 w.map w.rows x).b := rfl
   refine ⟨?_, ?_⟩
   ·rw [en]
    intro j hjl
    rw [List.length_append, List.length_singleton] at hjl
    by_cases hlt : j < w.notes.length
    ·rw [b2X .note hlt, a8t (by omega)]
     exact hn.num j hlt
    ·have : j = w.notes.length := by omega
     subst this
     rw [a5A .note, a8t (Nat.le_refl _), List.take_length]
     show x.ord.seq = f x.ord.who + 1 + cntN w.notes x.ord.who
     have a1 : x.ord.seq = (nth .row w.rows (k8 w.rows x.ord.who).toNat).seq + 1 := hseq
     have a2 : (nth .row w.rows (k8 w.rows x.ord.who).toNat).seq = f x.ord.who + cntN w.notes x.ord.who := hold
     omega
   ·rw [en, er]
    intro hl j hjl
    rw [hk.2.1] at hjl
    have hqj := hq j
    have a := hqj.2.2 hc.1 hjl
    have b := hn.row hc.2 j hjl
    rw [hqj.1, c6B]
    have c : (nth .row (y0 w.map w.rows x).b j).seq = (nth .row w.rows j).seq + (if x.ord.who = (nth .row w.rows j).who then 1 else 0) := a
    have d : (nth .row w.rows j).seq = f (nth .row w.rows j).who + cntN w.notes (nth .row w.rows j).who := b
    show (nth .row (y0 w.map w.rows x).b j).seq = f (nth .row w.rows j).who + (cntN w.notes (nth .row w.rows j).who + (if x.ord.who = (nth .row w.rows j).who then 1 else 0))
    omega
  ·have en : (a2l (wCut w i) x).notes = w.notes := by
    unfold a2l
    exact if_neg hc
   have er : (a2l (wCut w i) x).rows = (y0 w.map w.rows x).b := rfl
   refine ⟨?_, ?_⟩
   ·rw [en]; exact hn.num
   ·rw [en, er]
    intro hl j hjl
    rw [hk.2.1] at hjl
    have ho : (y0 w.map w.rows x).ok = false := by
     cases hh : (y0 w.map w.rows x).ok
     ·rfl
     ·exact absurd ⟨hh, hl⟩ hc
    have hqj := hq j
    rw [hqj.1, hqj.2.1 ho]
    exact hn.row hl j hjl
 | hear i hi hd => exact quiet rfl rfl
 | lose i hi => exact quiet rfl rfl
 | twice i hi => exact quiet rfl rfl
 | tick i hi cell => exact quiet rfl rfl
 | fall i hi => exact quiet rfl rfl
 | rise i hi hu => exact quiet rfl rfl
structure Beg (l : List Wlk) (w : Wld) : Prop where
 ok : p9 w = true
 all : y7 w.map l = true
 fresh : ∀ v ∈ l, v.seq = 0 ∧ v.last = 0
 few : l.length ≤ 5
 net : w.net = []
 notes : w.notes = []
 rows : w.rows = l.map (Y0 w.map)
 recs : ∀ c : Int, 0 ≤ c → c < w.map.cells → (stAt w.stores c).recs = [] ∧ (stAt w.stores c).base = V7 w.map c l
 n0 : ∀ i, i < w.servers.length → (nth .srv w.servers i).n0 = []
 fence : Fence w
theorem c7G {m : PMap} {l : List Wlk} {i : Nat} (hi : i < m.cells.toNat) : nth .sto ((List.range m.cells.toNat).map fun (i : Nat) => K3 m (i : Int) l) i = K3 m (i : Int) l := by
 rw [k9 .sto _ i (by simpa using hi)]; simp
theorem c8o {m : PMap} {l : List Wlk} {v : Int} (h1 : n8 m = true) (h4 : y7 m l = true) (h2 : 1 ≤ v) (h3 : v ≤ 3) (hf : ∀ x ∈ l, x.seq = 0 ∧ x.last = 0) (hl : l.length ≤ 5) : Beg l (a4c m l v) := by
 have hok := c0P h1 h4 h2 h3
 have he : a4c m l v = M5 m l v := by rw [a4c, if_pos ⟨h1, h4, h2, h3⟩]
 rw [he] at hok ⊢
 have hsrv : ∀ i, i < (M5 m l v).servers.length → nth .srv (M5 m l v).servers i = ⟨true, [], []⟩ := fun i hi => by
  rw [k9 .srv _ i hi]
  simp [M5]
 refine ⟨hok, h4, hf, hl, rfl, rfl, by simp [M5, a6Y, h1, h4], fun c h0 hc => ?_, fun i hi => by rw [hsrv i hi], ⟨fun i hi h hm => ?_, fun i j c n t1 t2 => ?_⟩⟩
 ·have hi : c.toNat < m.cells.toNat := by have : c < m.cells := hc; omega
  have : stAt (M5 m l v).stores c = K3 m ((c.toNat : Nat) : Int) l := c7G hi
  rw [this, show ((c.toNat : Nat) : Int) = c by omega]
  exact ⟨rfl, rfl⟩
 ·rw [hsrv i hi] at hm
  cases hm
 ·cases t1 with
  | hold hi h hm hc hn => rw [hsrv i hi] at hm; cases hm
  | word x hx hk hd hc hn => cases hx
  | table h0 hc hs hn =>
   exfalso
   have hc' : c.toNat < m.cells.toNat := by simpa [M5, a2h, h1] using hc
   have : nth .int (M5 m l v).table.servers c.toNat = (-1 : Int) := by
    show nth .int (a2h m).servers c.toNat = (-1 : Int)
    rw [a2h, if_pos h1, k9 .int _ _ (by simpa using hc')]
    simp
   rw [this] at hs
   omega
theorem b7N {m : PMap} {s : Srv} {st : List Sto} {t : Arb} {x : Msg} (hk : x.kind = 1) : (n5 m s st t x).out = [] ∧ (n5 m s st t x).srv.n0 = s.n0 ∧
  ((n5 m s st t x).stores = st ∨ (n5 m s st t x).stores = st.set x.cell.toNat ⟨x.n, (nth .sto st x.cell.toNat).base, (nth .sto st x.cell.toNat).recs⟩) := by
 unfold n5
 split
 ·exact ⟨rfl, rfl, .inl rfl⟩
 try rw [if_pos hk]
 unfold I0
 split
 ·exact ⟨rfl, rfl, .inl rfl⟩
 split
 ·exact ⟨rfl, rfl, .inl rfl⟩
 ·exact ⟨rfl, rfl, .inr rfl⟩
theorem c0c {w : Wld} (e : Evt) (hok : p9 w = true) (hf : Fence w) : Fence (m5 w e) := by
 have : m5 w e = u3 w e := by simp [m5, hok]
 rw [this]
 exact a9N hok hf (a4e w e)
theorem c6G {l : List Wlk} {w : Wld} (h : Beg l w) (c d : Int) : Beg l (m5 (m5 w ⟨1, c, 0, d, 0⟩) ⟨4, 0, 0, 0, 0⟩) := by
 have ok1 := b6I ⟨1, c, 0, d, 0⟩ h.ok
 have ok2 := b6I ⟨4, 0, 0, 0, 0⟩ ok1
 have f1 := c0c ⟨1, c, 0, d, 0⟩ h.ok h.fence
 have f2 := c0c ⟨4, 0, 0, 0, 0⟩ ok1 f1
 have e1 : m5 w ⟨1, c, 0, d, 0⟩ = u3 w ⟨1, c, 0, d, 0⟩ := by simp [m5, h.ok]
 by_cases hg : (p6 w.table w.servers.length c d).ok = true
 ·have e2 : m5 w ⟨1, c, 0, d, 0⟩ = ⟨w.map, w.servers, w.stores, (p6 w.table w.servers.length c d).t, w.rows, [a1w (p6 w.table w.servers.length c d).t c d], w.notes⟩ := by
   rw [e1]
   unfold u3
   rw [if_pos rfl]
   simp only [hg, if_true, u4, h.net]
   rfl
  have hgr := a5Q (n7.1 h.ok).1 hg
  generalize hT : (p6 w.table w.servers.length c d).t = T at *
  generalize hx : a1w T c d = x at *
  have xk : x.kind = 1 := by rw [← hx]; rfl
  have xd : x.dest = d := by rw [← hx]; rfl
  have xc : x.cell = c := by rw [← hx]; rfl
  have hd : ¬ x.dest = -1 := by rw [xd]; omega
  rw [e2] at ok1 f1 ok2 f2 ⊢
  generalize hw1 : (⟨w.map, w.servers, w.stores, T, w.rows, [x], w.notes⟩ : Wld) = w1 at *
  have n1 : w1.net = [x] := by rw [← hw1]
  have e3 : m5 w1 ⟨4, 0, 0, 0, 0⟩ = a1c (wCut w1 0) x := by
   have hn : nth .msg w1.net 0 = x := by rw [n1]; rfl
   have hp : (0 : Int) ≤ 0 ∧ (0 : Int) < (w1.net.length : Int) := by rw [n1]; exact ⟨Int.le_refl 0, by simp⟩
   simp only [m5, ok1, if_true]
   unfold u3
   rw [if_neg (by decide), if_neg (by decide), if_neg (by decide), if_pos (by decide), if_pos hp, if_pos rfl]
   show Q8 w1 0 = _
   unfold Q8
   rw [hn]
   simp only
   rw [if_neg hd]
  rw [e3] at ok2 f2 ⊢
  have hh := @b7N w1.map (nth .srv w1.servers x.dest.toNat) w1.stores w1.table x xk
  have e4 : a1c (wCut w1 0) x = ⟨w1.map, w1.servers.set x.dest.toNat (n5 w1.map (nth .srv w1.servers x.dest.toNat) w1.stores w1.table x).srv, (n5 w1.map (nth .srv w1.servers x.dest.toNat) w1.stores w1.table x).stores, w1.table, w1.rows, [], w1.notes⟩ := by
   unfold a1c u4 wCut
   simp only [hh.1, n1]
   rfl
  rw [e4] at ok2 f2 ⊢
  have m1 : w1.map = w.map := by rw [← hw1]
  have s1 : w1.servers = w.servers := by rw [← hw1]
  have st1 : w1.stores = w.stores := by rw [← hw1]
  refine ⟨ok2, by rw [m1]; exact h.all, h.fresh, h.few, rfl, by rw [← hw1]; exact h.notes, by rw [← hw1]; exact h.rows, fun k h0 hk => ?_, fun i hi => ?_, f2⟩
  ·have hr := h.recs k h0 (by rw [← m1]; exact hk)
   rcases hh.2.2 with e | e
   ·show (stAt (n5 w1.map (nth .srv w1.servers x.dest.toNat) w1.stores w1.table x).stores k).recs = [] ∧ _
    rw [e, st1, m1]
    exact hr
   ·have hlen := (B4.1 (n7.1 h.ok).2.1).2.1
    have hcl : x.cell.toNat < w1.stores.length := by
     have ha := F3 (n7.1 h.ok).1
     have := hgr.2.1
     rw [st1, xc]
     omega
    show (stAt (n5 w1.map (nth .srv w1.servers x.dest.toNat) w1.stores w1.table x).stores k).recs = [] ∧ (stAt (n5 w1.map (nth .srv w1.servers x.dest.toNat) w1.stores w1.table x).stores k).base = _
    rw [e, G8 hcl]
    by_cases hkk : k.toNat = x.cell.toNat
    ·rw [if_pos hkk]
     have : nth .sto w1.stores x.cell.toNat = stAt w.stores k := by unfold stAt; rw [st1, hkk]
     simp only
     rw [this, m1]
     exact hr
    ·rw [if_neg hkk, st1, m1]
     exact hr
  ·have hi' : i < w.servers.length := by rw [s1] at hi; simpa using hi
   have hdn : x.dest.toNat < w1.servers.length := by rw [s1, xd]; omega
   show (nth .srv (w1.servers.set x.dest.toNat _) i).n0 = []
   rw [Y8 hdn]
   split
   ·rw [hh.2.1, s1]
    exact h.n0 _ (by rw [← s1]; exact hdn)
   ·rw [s1]; exact h.n0 i hi'
 ·have e2 : m5 w ⟨1, c, 0, d, 0⟩ = w := by
   rw [e1]
   unfold u3
   rw [if_pos rfl]
   simp only
   rw [if_neg hg]
  rw [e2] at ok2 f2 ⊢
  have e3 : m5 w ⟨4, 0, 0, 0, 0⟩ = w := by
   have hp : ¬ ((0 : Int) ≤ 0 ∧ (0 : Int) < (w.net.length : Int)) := by rw [h.net]; decide
   simp only [m5, h.ok, if_true]
   unfold u3
   rw [if_neg (by decide), if_neg (by decide), if_neg (by decide), if_pos (by decide), if_neg hp]
  rw [e3]
  exact h
inductive Ran (w0 : Wld) : Wld → Prop
 | refl : Ran w0 w0
 | step {w : Wld} (e : Evt) (h : Ran w0 w) : Ran w0 (m5 w e)
def a7t (l : List Row) (who : Int) : Int := (rowAt l who).seq
theorem b8l {l : List Wlk} {w : Wld} (h : Beg l w) {c : Int} (h0 : 0 ≤ c) (h1 : c < w.map.cells) : cX w.map w.stores c = V7 w.map c l := by
 have hr := h.recs c h0 h1
 have hs := (a3g h.ok h0 h1).2.1
 unfold cX
 rw [a3o hs, hr.1, hr.2]
 rfl
theorem R5 {m : PMap} {c s : Int} (h : b6 m c s ≠ -1) : 0 ≤ c ∧ c < m.cells ∧ 0 ≤ b6 m c s ∧ b6 m c s < m.cells := by
 unfold b6 at h ⊢
 grind
theorem a1y {m : PMap} {c : Int} {l : List Wlk} (hp : n8 m = true) (h0 : 0 ≤ c) (h1 : c < m.cells) (hl : y7 m l = true) : V7 m c l = ⟨c, J2 m c l l.length, 0, [[], []], [0, 0], [0, 0]⟩ := by
 rw [V7, if_pos ⟨hp, h0, h1, hl⟩]
theorem c4X (t : Nat) : @Eq Int (nth .int [0, 0] t) 0 := by
 match t with
 | 0 => rfl
 | 1 => rfl
 | n + 2 => simp [nth, RT.dflt]
theorem c4W (t : Nat) : @Eq (List Pcl) (nth .pcls [[], []] t) [] := by
 match t with
 | 0 => rfl
 | 1 => rfl
 | n + 2 => simp [nth, RT.dflt]
theorem c6H {l : List Wlk} {w : Wld} (h : Beg l w) : Mail w := by
 have hp : n8 w.map = true := (B4.1 (n7.1 h.ok).2.1).1
 have hx : ∀ c : Int, 0 ≤ c → c < w.map.cells → ∀ s, inX w.map w.stores c s = 0 ∧ nxX w.map w.stores c s = 0 ∧ ouX w.map w.stores c s = [] := fun c h0 h1 s => by
  unfold inX nxX ouX
  rw [b8l h h0 h1, a1y hp h0 h1 h.all]
  exact ⟨c4X _, c4X _, c4W _⟩
 refine ⟨fun c s hs => ?_, fun c s hs k hk p hm => ?_, fun x hx => ?_, fun x hx => ?_⟩
 ·have hi := R5 hs
  have a := hx c hi.1 hi.2.1 s
  have b := hx _ hi.2.2.1 hi.2.2.2 (1 - s)
  rw [b.1, a.2.1, a.2.2]
  exact ⟨Int.le_refl 0, by decide⟩
 ·exfalso
  have hi := R5 hs
  have hr := h.recs c hi.1 hi.2.1
  rw [hr.1] at hk
  have hk0 : k = 0 := by simpa using hk
  subst hk0
  have : pfX w.map w.stores c 0 = V7 w.map c l := hr.2
  rw [this, a1y hp hi.1 hi.2.1 h.all, c4W] at hm
  cases hm
 ·rw [h.net] at hx; cases hx
 ·rw [h.net] at hx; cases hx
theorem c3c {l : List Wlk} {w : Wld} (h : Beg l w) : Shown w := by
 refine ⟨fun i hi g hg => ?_, fun x hx => ?_⟩
 ·rw [h.n0 i hi] at hg; cases hg
 ·rw [h.net] at hx; cases hx
theorem c3d {l : List Wlk} {w : Wld} (h : Beg l w) : Noted (a7t w.rows) w := by
 refine ⟨fun i hi => ?_, fun _ i hi => ?_⟩
 ·rw [h.notes] at hi
  exact absurd hi (Nat.not_lt_zero _)
 ·rw [h.notes, c6A]
  have := b4N (n7.1 h.ok).2.2.1 hi rfl
  unfold a7t rowAt
  rw [this, Int.toNat_natCast, Int.add_zero]
structure Inv (f : Int → Int) (w : Wld) : Prop where
 ok : p9 w = true
 fence : Fence w
 shown : Shown w
 mail : Mail w
 noted : Noted f w
theorem b5D {f : Int → Int} {w : Wld} (e : Evt) (h : Inv f w) : Inv f (m5 w e) := by
 have he : m5 w e = u3 w e := by simp [m5, h.ok]
 have hok := b6I e h.ok
 rw [he] at hok ⊢
 have hc := a4e w e
 exact ⟨hok, a9N h.ok h.fence hc, b6L h.ok h.fence h.shown hc, c2d h.ok h.fence h.mail hc, b7y h.ok h.noted hc⟩
theorem c0E {l : List Wlk} {w : Wld} (h : Beg l w) : Inv (a7t w.rows) w := ⟨h.ok, h.fence, c3c h, c6H h, c3d h⟩
theorem c7i {f : Int → Int} {w0 w : Wld} (h0 : Inv f w0) (h : Ran w0 w) : Inv f w := by
 induction h with
 | refl => exact h0
 | step e _ ih => exact b5D e ih
def ahO (w x : OW) : Bool := decide (x.wlk.id ≤ w.wlk.id)
def putO (l : List OW) (w : OW) : List OW := l.takeWhile (ahO w) ++ w :: l.dropWhile (ahO w)
def A3 (l : List OW) : List OW := l.foldl putO []
def Y5 (l : List OW) : Prop := l.Pairwise fun a b => a.wlk.id < b.wlk.id
def oid (x : OW) : Int := x.wlk.id
theorem a6G (l : List OW) (w : OW) : (putO l w).Perm (w :: l) := by
 unfold putO
 exact List.perm_middle.trans (by rw [List.takeWhile_append_dropWhile])
theorem a9K : ∀ (l a : List OW), (l.foldl putO a).Perm (l ++ a)
 | [], a => List.Perm.refl _
 | w :: l, a => by
  rw [List.foldl_cons]
  refine (a9K l (putO a w)).trans ?_
  refine ((a6G a w).append_left l).trans ?_
  exact List.perm_middle
theorem K4 (l : List OW) : (A3 l).Perm l := by
 have := a9K l []
 rwa [List.append_nil] at this
theorem c1p {l : List OW} {w : OW} (h : Y5 l) (hn : ∀ x ∈ l, x.wlk.id ≠ w.wlk.id) : Y5 (putO l w) := by
 induction l with
 | nil => simp [putO, Y5]
 | cons y l ih =>
  obtain ⟨hy, hl⟩ := List.pairwise_cons.1 h
  by_cases hh : y.wlk.id ≤ w.wlk.id
  ·have e : putO (y :: l) w = y :: putO l w := by simp [putO, ahO, hh]
   rw [e]
   refine List.pairwise_cons.2 ⟨fun x hx => ?_, ih hl fun x hx => hn x (List.mem_cons_of_mem _ hx)⟩
   rcases List.mem_cons.1 ((a6G l w).mem_iff.1 hx) with rfl | hx
   ·have := hn y List.mem_cons_self
    omega
   ·exact hy x hx
  ·have e : putO (y :: l) w = w :: y :: l := by simp [putO, ahO, hh]
   rw [e]
   refine List.pairwise_cons.2 ⟨fun x hx => ?_, h⟩
   rcases List.mem_cons.1 hx with rfl | hx
   ·omega
   ·have := hy x hx
    omega
theorem a9J : ∀ (l a : List OW), Y5 a → ((l ++ a).map oid).Nodup → Y5 (l.foldl putO a)
 | [], a, h, _ => h
 | w :: l, a, h, hn => by
  rw [List.foldl_cons]
  simp only [List.cons_append, List.map_cons, List.nodup_cons, List.map_append, List.mem_append, List.mem_map, not_or, not_exists, not_and] at hn
  refine a9J l (putO a w) (c1p h fun x hx => hn.1.2 x hx) ?_
  have hp : ((l ++ putO a w).map oid).Perm ((w :: (l ++ a)).map oid) := (((a6G a w).append_left l).trans List.perm_middle).map oid
  refine hp.nodup_iff.2 ?_
  simp only [List.map_cons, List.nodup_cons, List.map_append, List.mem_append, List.mem_map, not_or, not_exists, not_and]
  exact hn
theorem M7 {l : List OW} (hn : (l.map oid).Nodup) : Y5 (A3 l) := a9J l [] (by simp [Y5]) (by simpa using hn)
theorem b4S {l : List OW} (h : Y5 l) : (l.map oid).Nodup := by
 refine List.pairwise_map.2 (h.imp ?_)
 intro a b hab he
 simp only [oid] at he
 omega
theorem c4b {a b : List OW} (ha : Y5 a) (hb : Y5 b) (hp : a.Perm b) : a = b :=
 List.Perm.eq_of_pairwise (le := fun (a b : OW) => a.wlk.id < b.wlk.id) (fun (a b : OW) _ _ (h1 : a.wlk.id < b.wlk.id) (h2 : b.wlk.id < a.wlk.id) => absurd h1 (by omega)) ha hb hp
theorem b4g {T l : List OW} (hT : Y5 T) (hp : T.Perm l) : A3 l = T := by
 refine c4b (M7 ?_) hT ((K4 l).trans hp.symm)
 exact ((hp.map oid).nodup_iff).1 (b4S hT)
theorem a7s {a b : List OW} (hn : (a.map oid).Nodup) (hp : a.Perm b) : A3 a = A3 b :=
 (b4g (M7 hn) ((K4 a).trans hp)).symm
theorem c3D {α : Type} {l : List α} {k : Nat} (h : k < l.length) : l = l.take k ++ l[k] :: l.drop (k + 1) := by
 rw [← List.drop_eq_getElem_cons h, List.take_append_drop]
theorem a5l {α : Type} {l : List α} {k : Nat} (h : k < l.length) : l.Perm (l[k] :: (l.take k ++ l.drop (k + 1))) := by
 conv => lhs; rw [c3D h]
 exact List.perm_middle
theorem b8K {α : Type} {l : List α} {k : Nat} {y : α} (h : k < l.length) : (l.set k y).Perm (y :: (l.take k ++ l.drop (k + 1))) := by
 rw [List.set_eq_take_append_cons_drop, if_pos h]
 exact List.perm_middle
theorem set_perm {α : Type} {l r : List α} {k : Nat} {x y : α} (h : k < l.length) (hx : l[k] = x) (hp : l.Perm (x :: r)) : (l.set k y).Perm (y :: r) := by
 refine (b8K h).trans (List.Perm.cons y ?_)
 have := (a5l h).symm.trans hp
 rw [hx] at this
 exact this.cons_inv
theorem c1s {l : List OW} {k : Nat} {y : OW} (h : Y5 l) (hk : k < l.length) (hy : y.wlk.id = l[k].wlk.id) : Y5 (l.set k y) := by
 unfold Y5 at *
 rw [List.pairwise_iff_getElem] at *
 intro i j hi hj hij
 simp only [List.length_set] at hi hj
 have := h i j hi hj hij
 rw [List.getElem_set, List.getElem_set]
 split <;> split <;> rename_i e1 e2 <;> (try subst e1) <;> (try subst e2) <;> (try omega)
 all_goals first | (rw [hy]; exact this) | exact this
theorem a0a {l : List OW} (h : Y5 l) {x : OW} (hx : x ∈ l) : 0 ≤ m0 l x.wlk.id ∧ (m0 l x.wlk.id).toNat < l.length ∧ nth .ow l (m0 l x.wlk.id).toNat = x := by
 have hlt := b1g l x.wlk.id
 have h0 : 0 ≤ m0 l x.wlk.id := by
  rcases C3 (isOw x.wlk.id) l with ⟨_, h2⟩ | ⟨k, hk, h1, _, _⟩
  ·have := h2 x hx
   simp [isOw] at this
  ·unfold m0; rw [h1]; omega
 have hid := b9t h0
 have hl : (m0 l x.wlk.id).toNat < l.length := by omega
 refine ⟨h0, hl, ?_⟩
 have hm : nth .ow l (m0 l x.wlk.id).toNat ∈ l := r8 .ow hl
 generalize nth .ow l (m0 l x.wlk.id).toNat = y at *
 unfold Y5 at h
 clear hl h0 hlt
 induction l with
 | nil => cases hx
 | cons z l ih =>
  obtain ⟨hz, hl⟩ := List.pairwise_cons.1 h
  rcases List.mem_cons.1 hx with rfl | gx <;> rcases List.mem_cons.1 hm with gy | gy
  ·exact gy
  ·have := hz y gy; omega
  ·subst gy; have := hz x gx; omega
  ·exact ih hl gx gy
def sumL {α : Type} (f : α → Int) (l : List α) : Int := (l.map f).sum
def sumK {α : Type} (f : α → Int) (l : List α) (k : Nat) : Int := sumL f (l.take k)
theorem a4N {α : Type} (f : α → Int) (l r : List α) : sumL f (l ++ r) = sumL f l + sumL f r := by simp [sumL]
theorem a4M {α : Type} (f : α → Int) (x : α) : sumL f [x] = f x := by simp [sumL]
theorem a6r {α : Type} (f : α → Int) (l : List α) : sumK f l 0 = 0 := by simp [sumK, sumL]
theorem a6s (t : RT) (f : t.ty → Int) {l : List t.ty} {k : Nat} (h : k < l.length) : sumK f l (k + 1) = sumK f l k + f (nth t l k) := by
 unfold sumK
 rw [a6p t l k h, a4N, a4M]
theorem a8u {α : Type} (f : α → Int) {l : List α} {k : Nat} (h : k = l.length) : sumK f l k = sumL f l := by subst h; simp [sumK]
theorem b8A {α : Type} {f : α → Int} {B : Int} : ∀ {l : List α}, (∀ x ∈ l, 0 ≤ f x ∧ f x ≤ B) → 0 ≤ sumL f l ∧ sumL f l ≤ l.length * B
 | [], _ => by simp [sumL]
 | x :: r, h => by
  have h1 := b8A (l := r) fun y hy => h y (List.mem_cons_of_mem _ hy)
  have h2 := h x (List.mem_cons_self ..)
  have h3 : sumL f (x :: r) = f x + sumL f r := by simp [sumL]
  rw [h3, List.length_cons]
  have h4 : ((r.length + 1 : Nat) : Int) * B = r.length * B + B := by
   rw [Int.natCast_add, Int.add_mul]
   simp
  rw [h4]
  omega
theorem c4a {l : List Wlk} {id : Int} (h : j4 l id < 0) : B2 l id = l := by
 unfold B2
 rw [List.filter_eq_self]
 intro x hx
 rcases C3 (isId id) l with ⟨_, h2⟩ | ⟨k, hk, h1, _⟩
 ·have := h2 x hx
  simpa [isId] using this
 ·unfold j4 at h
  rw [h1] at h
  omega
def fl (m : PMap) (st : List Sto) (c s : Int) : List Pcl := if b6 m c s = -1 then [] else x9 (ouX m st c s) (inX m st (b6 m c s) (1 - s))
def isWp (p : Pcl) : Bool := decide (p.kind = 1)
def flyO (l : List Pcl) : List OW := (l.filter isWp).map fun p => ⟨p.wlk, false⟩
def G0 (l : List Wlk) : List OW := l.map fun w => ⟨w, true⟩
def a0m (m : PMap) : List Nat := List.range m.cells.toNat
def a3a (m : PMap) : List (Nat × Nat) := (a0m m).flatMap fun c => [(c, 0), (c, 1)]
def allO (m : PMap) (st : List Sto) : List OW := (a0m m).flatMap (fun (c : Nat) => G0 (cX m st (c : Int)).wlks) ++ (a3a m).flatMap fun e => flyO (fl m st (e.1 : Int) (e.2 : Int))
def cC (p : Pcl) : Int := if p.kind = 1 then 0 else p.l7
def sumC (l : List Pcl) : Int := sumL cC l
def airN (m : PMap) (st : List Sto) (d s : Int) : Int := if b6 m d s = -1 then 0 else sumC (fl m st (b6 m d s) (1 - s))
def m4 (m : PMap) (st : List Sto) : One := ⟨m, A3 (allO m st), (a0m m).map fun (c : Nat) => (cX m st (c : Int)).ground, (a0m m).map fun (c : Nat) => [airN m st (c : Int) 0, airN m st (c : Int) 1]⟩
theorem a9G : ∀ {l : List Pcl} {p : Pcl} {i : Int}, l.Pairwise (fun a b => a.n < b.n) → p ∈ l → p.n = i → x9 l i = p :: x9 l (i + 1)
 | [], p, i, _, h, _ => by cases h
 | q :: l, p, i, hs, h, hi => by
  obtain ⟨hq, hl⟩ := List.pairwise_cons.1 hs
  rcases List.mem_cons.1 h with rfl | hm
  ·have e1 : x9 (p :: l) i = p :: x9 l i := by simp [x9, hi]
   have e2 : x9 (p :: l) (i + 1) = x9 l (i + 1) := by
    unfold x9
    rw [List.filter_cons_of_neg]
    simp only [decide_eq_true_eq]
    omega
   rw [e1, e2]
   congr 1
   unfold x9
   refine List.filter_congr fun x hx => ?_
   have := hq x hx
   simp only [decide_eq_decide]
   omega
  ·have := hq p hm
   have e1 : ∀ j, i ≤ j → x9 (q :: l) j = x9 l j := fun j hj => by
    unfold x9
    rw [List.filter_cons_of_neg]
    simp only [decide_eq_true_eq]
    omega
   rw [e1 i (Int.le_refl i), e1 (i + 1) (by omega)]
   exact a9G hl hm hi
theorem c2F {l : List Pcl} {a b : Int} (h : a ≤ b) : x9 (x9 l a) b = x9 l b := by
 unfold x9
 rw [List.filter_filter]
 refine List.filter_congr fun x _ => ?_
 rw [Bool.eq_iff_iff]
 simp only [Bool.and_eq_true, decide_eq_true_eq]
 omega
theorem c5M {l : List Pcl} {p : Pcl} {i : Int} (h : i ≤ p.n) : x9 (l ++ [p]) i = x9 l i ++ [p] := by
 unfold x9
 rw [List.filter_append]
 simp [h]
theorem c3Y {m : PMap} {l : List Pcl} {n : Int} (h : s4 m l n = true) : l.Pairwise (fun a b => a.n < b.n) := by
 rw [List.pairwise_iff_getElem]
 intro i j hi hj hij
 have h1 := b2F h hi
 have h2 := b2F h hj
 rw [k9 .pcl l i hi] at h1
 rw [k9 .pcl l j hj] at h2
 omega
theorem b3y {m : PMap} {c : Cll} (h : q9 m c = true) {s : Nat} (hs : s < 2) : s4 m (nth .pcls c.outs s) (nth .int c.next s) = true := ((C4.1 h).2.2.2.2.2.2.2.2.2.2 s hs).1
section
variable {m : PMap} {st st' : List Sto} {d : Int} {r : Rec}
theorem b8k {c : Int} (h : 0 ≤ c) : cX m st ((c.toNat : Nat) : Int) = cX m st c := by rw [show ((c.toNat : Nat) : Int) = c by omega]
theorem a1K {c s : Int} (h : b6 m c s ≠ -1) : 0 ≤ c ∧ 0 ≤ b6 m c s := ⟨(R5 h).1, (R5 h).2.2.1⟩
theorem Wr.far (h : Wr m st st' d r) {c : Int} (h0 : 0 ≤ c) (hc : c ≠ d) : cX m st' c = cX m st c := h.other (by have := h.zero; omega)
theorem c0b (h : Wr m st st' d r) (ho : (cX m st' d).outs = (cX m st d).outs) (hi : (cX m st' d).ins = (cX m st d).ins) (c s : Int) : fl m st' c s = fl m st c s := by
 unfold fl
 split
 ·rfl
 ·rename_i hs
  have hn := a1K hs
  have e1 : ouX m st' c s = ouX m st c s := by
   unfold ouX
   by_cases hc : c = d
   ·subst hc; rw [ho]
   ·rw [h.far hn.1 hc]
  have e2 : inX m st' (b6 m c s) (1 - s) = inX m st (b6 m c s) (1 - s) := by
   unfold inX
   by_cases hc : b6 m c s = d
   ·rw [hc, hi]
   ·rw [h.far hn.2 hc]
  rw [e1, e2]
theorem b9Z (h : Wr m st st' d r) {e : Int} {q : Pcl} (he : b6 m d e ≠ -1) (hl : (cX m st d).outs.length = 2) (ho : (cX m st' d).outs = A7 (cX m st d) e.toNat q) (hi : (cX m st' d).ins = (cX m st d).ins)
  (hq : inX m st (b6 m d e) (1 - e) ≤ nxX m st d e) : (∀ c s, ¬ (c = d ∧ s = e) → fl m st' c s = fl m st c s) ∧ fl m st' d e = fl m st d e ++ [⟨nxX m st d e, q.kind, q.wlk, q.l7⟩] := by
 have h2 := G9 he
 have ins : ∀ c s, b6 m c s ≠ -1 → inX m st' (b6 m c s) (1 - s) = inX m st (b6 m c s) (1 - s) := fun c s hs => by
  unfold inX
  by_cases hc : b6 m c s = d
  ·rw [hc, hi]
  ·rw [h.far (a1K hs).2 hc]
 constructor
 ·intro c s hne
  unfold fl
  split
  ·rfl
  ·rename_i hs
   rw [ins c s hs]
   have e1 : ouX m st' c s = ouX m st c s := by
    unfold ouX
    by_cases hc : c = d
    ·subst hc
     rw [ho]
     unfold A7
     have h3 := G9 hs
     exact n9 .pcls (by omega)
    ·rw [h.far (a1K hs).1 hc]
   rw [e1]
 ·unfold fl
  rw [if_neg he, if_neg he, ins d e he]
  have e1 : ouX m st' d e = ouX m st d e ++ [⟨nxX m st d e, q.kind, q.wlk, q.l7⟩] := by
   unfold ouX
   rw [ho]
   unfold A7
   exact l9 .pcls (by omega)
  rw [e1]
  exact c5M hq
theorem fl_in (h : Wr m st st' d r) (hk : r.kind = 2) (hok : ∀ c, 0 ≤ c → c < m.cells → q9 m (cX m st c) = true) (hs : Sent m st (b6 m d r.side) (1 - r.side) r.pcl) :
  b6 m d r.side ≠ -1 ∧ (∀ c s, ¬ (c = b6 m d r.side ∧ s = 1 - r.side) → fl m st' c s = fl m st c s) ∧ fl m st (b6 m d r.side) (1 - r.side) = r.pcl :: fl m st' (b6 m d r.side) (1 - r.side) := by
 have hf := h.fits
 obtain ⟨hsd, hr, he⟩ := U3 hk hf
 rw [h.cok.2] at hsd
 obtain ⟨r1, r2, r3, r4⟩ := M8 hr
 have hb := x6 hsd
 have h2 := G9 hsd
 have hin := R5 hsd
 have hself : cX m st' d = (s7 m (cX m st d) r.side.toNat r.pcl).c := by rw [h.self, he]
 have hins : (cX m st d).ins.length = 2 := (n6 h.cok.1).2.2.2.2.2.2.2.2
 have hx : b6 m (b6 m d r.side) (1 - r.side) = d := by have := hb; grind
 have hne : b6 m d r.side ≠ d := by have := b4h hsd; intro e; rw [e] at this; exact this rfl
 have outs : ∀ c s, 0 ≤ c → ouX m st' c s = ouX m st c s := fun c s h0 => by
  unfold ouX
  by_cases hc : c = d
  ·subst hc; rw [hself, r1]
  ·rw [h.far h0 hc]
 have hn : inX m st d r.side = r.pcl.n := r4.symm
 have hmem : r.pcl ∈ ouX m st (b6 m d r.side) (1 - r.side) := by
  rcases hs with hs | hs
  ·rw [hx, show 1 - (1 - r.side) = r.side by omega, hn] at hs
   omega
  ·exact hs
 refine ⟨hsd, fun c s hne2 => ?_, ?_⟩
 ·unfold fl
  split
  ·rfl
  ·rename_i hcs
   rw [outs c s (a1K hcs).1]
   have e2 : inX m st' (b6 m c s) (1 - s) = inX m st (b6 m c s) (1 - s) := by
    unfold inX
    by_cases hc : b6 m c s = d
    ·rw [hc, hself, r3]
     unfold C0
     have h3 := G9 hcs
     refine n9 .int (fun e => hne2 ?_)
     have hss : 1 - s = r.side := by omega
     have hb2 := x6 hcs
     constructor
     ·rw [← hss, ← hc]
      grind
     ·omega
    ·rw [h.far (a1K hcs).2 hc]
   rw [e2]
 ·have hxe : b6 m (b6 m d r.side) (1 - r.side) ≠ -1 := by rw [hx]; have := h.zero; omega
  unfold fl
  rw [if_neg hxe, if_neg hxe, hx, show 1 - (1 - r.side) = r.side by omega, outs _ _ hin.2.2.1]
  have e1 : inX m st' d r.side = inX m st d r.side + 1 := by
   unfold inX
   rw [hself, r3]
   unfold C0
   exact l9 .int (by omega)
  rw [e1]
  refine a9G (c3Y (b3y (hok _ hin.2.2.1 hin.2.2.2) (s := (1 - r.side).toNat) h2.2.1)) hmem hn.symm
theorem fl_ack (h : Wr m st st' d r) (hk : r.kind = 3) (hack : r.n ≤ inX m st (b6 m d r.side) (1 - r.side)) (c s : Int) : fl m st' c s = fl m st c s := by
 have hf := h.fits
 obtain ⟨hsd, hr, he⟩ := V9 hk hf
 rw [h.cok.2] at hsd
 obtain ⟨r1, r2, r3, r4, r5⟩ := U7 hr
 have h2 := G9 hsd
 have hl : (cX m st d).outs.length = 2 := (n6 h.cok.1).2.2.2.2.2.2.1
 have hself : cX m st' d = (D3 (cX m st d) r.side.toNat r.n).c := by rw [h.self, he]
 unfold fl
 split
 ·rfl
 ·rename_i hcs
  have e2 : inX m st' (b6 m c s) (1 - s) = inX m st (b6 m c s) (1 - s) := by
   unfold inX
   by_cases hc : b6 m c s = d
   ·rw [hc, hself, r3]
   ·rw [h.far (a1K hcs).2 hc]
  rw [e2]
  by_cases hc : c = d
  ·subst hc
   unfold ouX
   rw [hself, r1]
   unfold M1
   have h3 := G9 hcs
   by_cases hss : s = r.side
   ·subst hss
    rw [l9 .pcls (by omega)]
    exact c2F hack
   ·rw [n9 .pcls (by omega)]
  ·unfold ouX
   rw [h.far (a1K hcs).1 hc]
end
end Go.Mo
