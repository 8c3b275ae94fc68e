/-
  Plain laws of the one world: what a record turns there.
-/
import Derived.Test.YtjdaiobeiimpfaaGreatM5
set_option linter.unusedVariables false
set_option linter.unusedSimpArgs false
namespace Go.Mo
open Go.Sx
section
variable {m : PMap} {st st' : List Sto} {d : Int} {r : Rec}
end
end Go.Mo
namespace Go.Mo
open Go.Sx
structure OneInv (m : PMap) (st : List Sto) : Prop where
 plc : plcOk m = true
 cells : ∀ c : Int, 0 ≤ c → c < m.cells → cllOk m (cX m st c) = true ∧ (cX m st c).cell = c
 seq : ∀ c s, plcSide m c s ≠ -1 → inX m st (plcSide m c s) (1 - s) ≤ nxX m st c s ∧ nxX m st c s - (ouX m st c s).length ≤ inX m st (plcSide m c s) (1 - s)
 next : ∀ c s, plcSide m c s ≠ -1 → nxX m st c s ≤ 250
 ids : ((allO m st).map oid).Nodup
section
variable {m : PMap} {st st' : List Sto} {d : Int} {r : Rec}
end
end Go.Mo
namespace Go.Mo
open Go.Sx
section
variable {m : PMap} {st st' : List Sto} {d : Int} {r : Rec}
end
end Go.Mo
namespace Go.Mo
open Go.Sx
section
variable {m : PMap} {st st' : List Sto} {d : Int} {r : Rec}
end
end Go.Mo
namespace Go.Mo
open Go.Sx
section
variable {m : PMap} {st st' : List Sto} {d : Int} {r : Rec}
end
end Go.Mo
namespace Go.Mo
open Go.Sx
inductive Did (w w' : Wld) : Prop
 | quiet (h : Lsame w.stores w'.stores)
 | wrote (d : Int) (r : Rec) (h : Wr w.map w.stores w'.stores d r) (hd : d < w.map.cells) (hin : r.kind = 2 → Sent w.map w.stores (plcSide w.map d r.side) (1 - r.side) r.pcl)
   (hack : r.kind = 3 → r.n ≤ inX w.map w.stores (plcSide w.map d r.side) (1 - r.side))
structure Pl (L : List Int) (m : PMap) (st : List Sto) : Prop where
 next : ∀ c s, plcSide m c s ≠ -1 → nxX m st c s ≤ (stAt st c).recs.length
 ids : ((allO m st).map oid).Perm L
theorem oneInv_of {L : List Int} {w : Wld} (hok : wldOk w = true) (hm : Mail w) (hL : L.Nodup) (hp : Pl L w.map w.stores) : OneInv w.map w.stores := by
 have hs := (wldOk_iff.1 hok).2.1
 have h1 := stosOk_iff.1 hs
 refine ⟨h1.1, fun c c0 c1 => ?_, hm.seq, fun c s hcs => ?_, (hp.ids.nodup_iff).2 hL⟩
 ·obtain ⟨q1, q2, q3, q4⟩ := cells_ok hok c0 c1
  exact ⟨q4, by unfold cX; rw [state_cell, q3]⟩
 ·have hi := side_in hcs
  have := hp.next c s hcs
  have hl := (stoOk_iff.1 (cells_ok hok hi.1 hi.2.1).2.1).2.2.1
  omega
theorem Wr.next {m : PMap} {st st' : List Sto} {d : Int} {r : Rec} (h : Wr m st st' d r) {s : Int} (hs : s.toNat < 2) : nxX m st' d s ≤ nxX m st d s + 1 := by
 unfold nxX
 rw [h.self]
 have hok := h.cok.1
 rcases log_kind h.log with ⟨hk, ho⟩ | ⟨hk, _⟩ | ⟨hk, _⟩
 ·rw [(apply_do hk h.fits).2.1]
  rcases (do_sides hok ho hs).2 with ⟨_, e⟩ | ⟨p, _, _, e⟩
  ·rw [e]; exact Int.le_add_one (Int.le_refl _)
  ·rw [e]; exact Int.le_refl _
 ·obtain ⟨_, hr, hc⟩ := apply_in hk h.fits
  rw [hc, (recv_sides hr).2.1]
  exact Int.le_add_one (Int.le_refl _)
 ·obtain ⟨_, hr, hc⟩ := apply_ack hk h.fits
  rw [hc, (rel_sides hr).2.1]
  exact Int.le_add_one (Int.le_refl _)
inductive Goes (m : PMap) (st st' : List Sto) : Prop
 | quiet (h : Lsame st st') (e : oneSt m st' = oneSt m st)
 | order (d : Int) (r : Rec) (h : Wr m st st' d r) (hd : d < m.cells) (hk : r.kind = 1) (e : oneDo (oneSt m st) r.ord = ⟨oneSt m st', (cllDo m (cX m st d) r.ord).code⟩)
 | land (d : Int) (r : Rec) (h : Wr m st st' d r) (hd : d < m.cells) (hk : r.kind = 2) (hw : r.pcl.kind = 1) (e : oneLand (oneSt m st) r.pcl.wlk.id = oneSt m st')
 | down (d : Int) (r : Rec) (h : Wr m st st' d r) (hd : d < m.cells) (hk : r.kind = 2) (hw : ¬ r.pcl.kind = 1) (e : oneDown (oneSt m st) d r.side r.pcl.coins = oneSt m st')
 | word (d : Int) (r : Rec) (h : Wr m st st' d r) (hd : d < m.cells) (hk : r.kind = 3) (e : oneSt m st' = oneSt m st)
def RelAt (who seq code : Int) (x y : OW) : Prop := y.wlk.id = x.wlk.id ∧ ((y.wlk.seq = x.wlk.seq ∧ y.wlk.last = x.wlk.last) ∨ (x.wlk.id = who ∧ x.wlk.seq < seq ∧ y.wlk.seq = seq ∧ y.wlk.last = code))
structure Hist (who seq code : Int) (a b : List OW) : Prop where
 fwd : ∀ x ∈ a, ∃ y ∈ b, RelAt who seq code x y
 bwd : ∀ y ∈ b, ∃ x ∈ a, RelAt who seq code x y
def recX (st : List Sto) (c : Int) (i : Nat) : Rec := nth .rcd (stAt st c).recs i
structure Done (m : PMap) (st : List Sto) (c : Int) (i : Nat) (who seq code : Int) : Prop where
 zero : 0 ≤ c
 cell : c < m.cells
 lt : i < (stAt st c).recs.length
 kind : (recX st c i).kind = 1
 who : (recX st c i).ord.who = who
 seq : (recX st c i).ord.seq = seq
 code : (cllApply m (pfX m st c i) (recX st c i)).code = code
def Was (m : PMap) (st : List Sto) (who seq code : Int) : Prop := ∃ c i, Done m st c i who seq code
theorem rec_grow {m : PMap} {st st' : List Sto} (hg : Grow m st st') {c : Int} {i : Nat} (hi : i < (stAt st c).recs.length) : recX st' c i = recX st c i := by
 obtain ⟨l, e⟩ := hg.recs c
 unfold recX
 rw [e]
 exact nth_app_lt .rcd hi
theorem pf_grow {m : PMap} {st st' : List Sto} (hg : Grow m st st') {c : Int} {k : Nat} (hk : k ≤ (stAt st c).recs.length) : pfX m st' c k = pfX m st c k := hg.fold c hk
theorem Done.grow {m : PMap} {st st' : List Sto} {c : Int} {i : Nat} {who seq code : Int} (h : Done m st c i who seq code) (hg : Grow m st st') : Done m st' c i who seq code := by
 have hl := h.lt
 refine ⟨h.zero, h.cell, Nat.lt_of_lt_of_le h.lt (hg.le c), ?_, ?_, ?_, ?_⟩
 ·rw [rec_grow hg hl]; exact h.kind
 ·rw [rec_grow hg hl]; exact h.who
 ·rw [rec_grow hg hl]; exact h.seq
 ·rw [rec_grow hg hl, pf_grow hg (Nat.le_of_lt hl)]; exact h.code
theorem Was.grow {m : PMap} {st st' : List Sto} {who seq code : Int} (h : Was m st who seq code) (hg : Grow m st st') : Was m st' who seq code := let ⟨c, i, h⟩ := h; ⟨c, i, h.grow hg⟩
structure Once (w : Wld) : Prop where
 known : ∀ c i, 0 ≤ c → c < w.map.cells → i < (stAt w.stores c).recs.length → (recX w.stores c i).kind = 1 → ∃ x ∈ (oneSt w.map w.stores).wlks, x.wlk.id = (recX w.stores c i).ord.who ∧ (recX w.stores c i).ord.seq ≤ x.wlk.seq
 uniq : ∀ c i c' i', 0 ≤ c → c < w.map.cells → 0 ≤ c' → c' < w.map.cells → i < (stAt w.stores c).recs.length → i' < (stAt w.stores c').recs.length → (recX w.stores c i).kind = 1 → (recX w.stores c' i').kind = 1 →
  (recX w.stores c i).ord.who = (recX w.stores c' i').ord.who → (recX w.stores c i).ord.seq = (recX w.stores c' i').ord.seq → c = c' ∧ i = i'
 last : ∀ x ∈ (oneSt w.map w.stores).wlks, x.wlk.seq = 0 ∨ Was w.map w.stores x.wlk.id x.wlk.seq x.wlk.last
 old : ∀ c, 0 ≤ c → c < w.map.cells → ∀ k, k ≤ (stAt w.stores c).recs.length → ∀ v ∈ (pfX w.map w.stores c k).wlks, v.seq = 0 ∨ Was w.map w.stores v.id v.seq v.last
 told : ∀ x ∈ w.net, x.kind = 3 → Was w.map w.stores x.ord.who x.ord.seq x.n
 notes : ∀ n ∈ w.notes, Was w.map w.stores n.who n.seq n.code
structure Whole (L : List Int) (f : Int → Int) (w : Wld) : Prop where
 inv : Inv f w
 pl : Pl L w.map w.stores
 once : Once w
theorem Whole.one {L : List Int} {f : Int → Int} {w : Wld} (hL : L.Nodup) (h : Whole L f w) : OneInv w.map w.stores := oneInv_of h.inv.ok h.inv.mail hL h.pl
end Go.Mo
