/-
  The law FnSrvDown.
-/
import Derived.Test.YtfgphaokmjdcbaaGreatGnH
import Derived.Test.YtfgphaokmjdcbaaGreatGnQ
import Derived.Test.YtfgphaokmjdcbaaGreatGnO
import Derived.Test.YtfgphaokmjdcbaaGreatGrBt
import Derived.Test.YtfgphaokmjdcbaaGreatGnVe
import Derived.Test.YtfgphaokmjdcbaaGreatInsG
import Derived.Test.YtfgphaokmjdcbaaGreatGnE
import Derived.Test.YtfgphaokmjdcbaaGreatInsW
import Derived.Test.YtfgphaokmjdcbaaGreatM4
import Derived.Test.YtfgphaokmjdcbaaGreatM3
import Derived.Test.YtfgphaokmjdcbaaGreatFnFb
import Derived.Test.YtfgphaokmjdcbaaGreatM1
set_option linter.unusedVariables false
set_option linter.unusedSimpArgs false
namespace Go.Proofs.YtfgphaokmjdcbaaGreat
open Go.Sx Go.Proofs Go.Mo
set_option maxRecDepth 100000
set_option maxHeartbeats 8000000
set_option linter.unusedSimpArgs false
set_option linter.unusedVariables false

noncomputable def sLawSrvDown : Sx.Spec := ⟨false, true, [.list .byte], [], fun _ _ _ => .ret (vB fun _ => true, fun _ => 0)⟩
theorem ncastSrvDown (n : Nat) : (NatCast.natCast n : Int) = (n : Int) := rfl
theorem down_law {m : PMap} {s : Srv} {st : List Sto} {t : Arb} {v : Int} {x : Msg} (h : ¬ ((srvHearX m s st t v x).stores.length : Int) = 0) :
    (s.up = false ∨ (srvHas s x.cell = false ∧ ¬ x.kind = 1 ∧ ¬ x.kind = 7) → @Eq Srv (srvHearX m s st t v x).srv s) ∧ (s.up = false ∨ (srvHas s x.cell = false ∧ ¬ x.kind = 1 ∧ ¬ x.kind = 7) → @Eq (List Sto) (srvHearX m s st t v x).stores st) ∧ (s.up = false ∨ (srvHas s x.cell = false ∧ ¬ x.kind = 1 ∧ ¬ x.kind = 7) → (srvHearX m s st t v x).out.length = 0) := by
  have h' : ¬ (srvHearX m s st t v x).stores.length = 0 := fun e => h (by rw [e]; rfl)
  refine ⟨fun hn => ?_, fun hn => ?_, fun hn => ?_⟩ <;> rw [hrX_down h' hn]
  rfl
theorem down_cell {s : Srv} {c : Int} (h : srvHas s c = true) : (srvHold s c).state.cell = c := (srvHold_mem h).2
theorem okLawSrvDown : SpecOk1 Tryz.prog 7 sLawSrvDown := spec1 tabOk (ss := [(17, sDrawSrvHearE), (18, sSrvHear), (19, sSSrvHear), (20, sIsV), (21, sIsStores), (22, sIsNet), (30, sSrvHold), (31, sSrvHold), (24, sSrvNew), (23, sSrvOk)]) ⟨okDrawSrvHearE, okSrvHear, okSSrvHear, okIsServer, okIsStores, okIsNet, okSrvHold, okSSrvHold, okSrvNew, okSrvOk, trivial⟩ rfl rfl <| by
  intro (bs : Th (List Int)) (p : Th Int) ⟨(a : Th (List Int)), u⟩ K _ _ ho h
  obtain ⟨a, rfl⟩ := th_ex a
  refine ⟨noAnn, noAnn, 20, ?_⟩
  cbv
  repeat' first | ((with_reducible intro _); cbv) | ((with_reducible show _ ∧ _); (with_reducible apply And.intro))
  all_goals first | (refine retK h ?_; clear h; simp only [fin0]) | (with_reducible refine Ob.mk ?_; clear h) | (clear h)
  all_goals (try simp only [eta0, RT.bytes] at *)
  all_goals (try dsimp only [RT.ty] at *)
  all_goals (try simp only [ncastSrvDown] at *)
  all_goals first | omega | exact wrap_succ (by omega) | skip
  all_goals first | exact srv_one | skip
  all_goals (try have hG := down_law (by assumption))
  all_goals (try dsimp only [RT.ty] at hG)
  all_goals (try clear ho)
  all_goals grind [down_cell]
end Go.Proofs.YtfgphaokmjdcbaaGreat

/-
  The law FnSrvGrant.
-/
namespace Go.Proofs.YtfgphaokmjdcbaaGreat
open Go.Sx Go.Proofs Go.Mo
set_option maxRecDepth 100000
set_option maxHeartbeats 8000000
set_option linter.unusedSimpArgs false
set_option linter.unusedVariables false

noncomputable def sLawSrvGrant : Sx.Spec := ⟨false, true, [.list .byte], [], fun _ _ _ => .ret (vB fun _ => true, fun _ => 0)⟩
theorem ncastSrvGrant (n : Nat) : (NatCast.natCast n : Int) = (n : Int) := rfl
theorem grant_out {m : PMap} {s : Srv} {st : List Sto} {t : Arb} {v c n : Int} : (srvHearX m s st t v ⟨1, 0, c, 0, n, ⟨0, 0, 0, 0, 0⟩, ⟨0, 0, ⟨0, 0, 0, 0, 0⟩, 0⟩, ⟨0, 0, ⟨0, 0, 0, 0, 0⟩⟩⟩).out.length = 0 := by
  by_cases h : (srvHearX m s st t v ⟨1, 0, c, 0, n, ⟨0, 0, 0, 0, 0⟩, ⟨0, 0, ⟨0, 0, 0, 0, 0⟩, 0⟩, ⟨0, 0, ⟨0, 0, 0, 0, 0⟩⟩⟩).stores.length = 0
  · rw [hrX_none h]; rfl
  · have := (hrX_grant (m := m) (s := s) (st := st) (t := t) (v := v) (c := c) (n := n) h).1
    have e : (srvHearX m s st t v ⟨1, 0, c, 0, n, ⟨0, 0, 0, 0, 0⟩, ⟨0, 0, ⟨0, 0, 0, 0, 0⟩, 0⟩, ⟨0, 0, ⟨0, 0, 0, 0, 0⟩⟩⟩).out = [] := this
    rw [e]; rfl
theorem grant_law {m : PMap} {s : Srv} {st : List Sto} {t : Arb} {v c n : Int} (h : ¬ ((srvHearX m s st t v ⟨1, 0, c, 0, n, ⟨0, 0, 0, 0, 0⟩, ⟨0, 0, ⟨0, 0, 0, 0, 0⟩, 0⟩, ⟨0, 0, ⟨0, 0, 0, 0, 0⟩⟩⟩).stores.length : Int) = 0) :
    0 ≤ c ∧ c < (st.length : Int) ∧ (srvHearX m s st t v ⟨1, 0, c, 0, n, ⟨0, 0, 0, 0, 0⟩, ⟨0, 0, ⟨0, 0, 0, 0, 0⟩, 0⟩, ⟨0, 0, ⟨0, 0, 0, 0, 0⟩⟩⟩).stores.length = st.length ∧
    ((s.up = false ∨ (srvHas s c = true ∧ n ≤ (srvHold s c).age) ∨ n < (nth .sto st c.toNat).age) → @Eq Srv (srvHearX m s st t v ⟨1, 0, c, 0, n, ⟨0, 0, 0, 0, 0⟩, ⟨0, 0, ⟨0, 0, 0, 0, 0⟩, 0⟩, ⟨0, 0, ⟨0, 0, 0, 0, 0⟩⟩⟩).srv s) ∧
    ((s.up = false ∨ (srvHas s c = true ∧ n ≤ (srvHold s c).age) ∨ n < (nth .sto st c.toNat).age) → @Eq (List Sto) (srvHearX m s st t v ⟨1, 0, c, 0, n, ⟨0, 0, 0, 0, 0⟩, ⟨0, 0, ⟨0, 0, 0, 0, 0⟩, 0⟩, ⟨0, 0, ⟨0, 0, 0, 0, 0⟩⟩⟩).stores st) ∧
    (s.up = true → ¬ (srvHas s c = true ∧ n ≤ (srvHold s c).age) → ¬ n < (nth .sto st c.toNat).age → srvHas (srvHearX m s st t v ⟨1, 0, c, 0, n, ⟨0, 0, 0, 0, 0⟩, ⟨0, 0, ⟨0, 0, 0, 0, 0⟩, 0⟩, ⟨0, 0, ⟨0, 0, 0, 0, 0⟩⟩⟩).srv c = true ∧ (srvHold (srvHearX m s st t v ⟨1, 0, c, 0, n, ⟨0, 0, 0, 0, 0⟩, ⟨0, 0, ⟨0, 0, 0, 0, 0⟩, 0⟩, ⟨0, 0, ⟨0, 0, 0, 0, 0⟩⟩⟩).srv c).age = n ∧ (nth .sto (srvHearX m s st t v ⟨1, 0, c, 0, n, ⟨0, 0, 0, 0, 0⟩, ⟨0, 0, ⟨0, 0, 0, 0, 0⟩, 0⟩, ⟨0, 0, ⟨0, 0, 0, 0, 0⟩⟩⟩).stores c.toNat).age = n ∧ (srvHold (srvHearX m s st t v ⟨1, 0, c, 0, n, ⟨0, 0, 0, 0, 0⟩, ⟨0, 0, ⟨0, 0, 0, 0, 0⟩, 0⟩, ⟨0, 0, ⟨0, 0, 0, 0, 0⟩⟩⟩).srv c).count = ((nth .sto (srvHearX m s st t v ⟨1, 0, c, 0, n, ⟨0, 0, 0, 0, 0⟩, ⟨0, 0, ⟨0, 0, 0, 0, 0⟩, 0⟩, ⟨0, 0, ⟨0, 0, 0, 0, 0⟩⟩⟩).stores c.toNat).recs.length : Int)) := by
  have h' : ¬ (srvHearX m s st t v ⟨1, 0, c, 0, n, ⟨0, 0, 0, 0, 0⟩, ⟨0, 0, ⟨0, 0, 0, 0, 0⟩, 0⟩, ⟨0, 0, ⟨0, 0, 0, 0, 0⟩⟩⟩).stores.length = 0 := fun e => h (by rw [e]; rfl)
  have hv := hrX_valid h'
  have hs := hrX_stays h'
  have hm := hv.2.2.2
  simp only [msgOk, decide_eq_true_eq] at hm
  have hst := stosOk_iff.1 hv.2.1
  have hg := hrX_grant (m := m) (s := s) (st := st) (t := t) (v := v) (c := c) (n := n) h'
  exact ⟨hm.2.2.2.1, by have := hm.2.2.2.2.1; omega, hs.2.2.2.2.1, fun a => (hg.2.1 a).1, fun a => (hg.2.1 a).2, hg.2.2⟩
theorem okLawSrvGrant : SpecOk1 Tryz.prog 8 sLawSrvGrant := spec1 tabOk (ss := [(17, sDrawSrvHearE), (18, sSrvHear), (19, sSSrvHear), (20, sIsV), (21, sIsStores), (22, sIsNet), (24, sSrvNew), (23, sSrvOk), (30, sSrvHold)]) ⟨okDrawSrvHearE, okSrvHear, okSSrvHear, okIsServer, okIsStores, okIsNet, okSrvNew, okSrvOk, okSrvHold, trivial⟩ rfl rfl <| by
  intro (bs : Th (List Int)) (p : Th Int) ⟨(a : Th (List Int)), u⟩ K _ _ ho h
  obtain ⟨a, rfl⟩ := th_ex a
  refine ⟨noAnn, noAnn, 20, ?_⟩
  cbv
  repeat' first | ((with_reducible intro _); cbv) | ((with_reducible show _ ∧ _); (with_reducible apply And.intro))
  all_goals first | (refine retK h ?_; clear h; simp only [fin0]) | (with_reducible refine Ob.mk ?_; clear h) | (clear h)
  all_goals (try simp only [eta0, RT.bytes] at *)
  all_goals (try dsimp only [RT.ty] at *)
  all_goals (try simp only [ncastSrvGrant] at *)
  all_goals first | omega | exact wrap_succ (by omega) | skip
  all_goals first | exact srv_one | skip
  all_goals (try have hG := grant_law (by assumption))
  all_goals (try dsimp only [RT.ty] at hG)
  all_goals (try clear ho)
  all_goals grind [grant_out]
end Go.Proofs.YtfgphaokmjdcbaaGreat

/-
  Contracts: an order done in a cell.
-/
namespace Go.Proofs.YtfgphaokmjdcbaaGreat
open Go.Sx Go.Proofs Go.Mo
set_option maxRecDepth 100000
set_option maxHeartbeats 8000000
set_option linter.unusedSimpArgs false
set_option linter.unusedVariables false


theorem okCllDo : SpecOk1 Tryz.prog 33 sCllDo := spec1 tabOk (ss := [(85, sCllOk), (56, sOrdOk), (90, sCloneC), (138, sPlace), (124, sToward), (127, sPlcCell), (140, sWlkOut), (128, sPlcEdge)]) ⟨okCllOk, okOrdOk, okCloneC, okPlace, okToward, okPlcCell, okWlkOut, okPlcEdge, trivial⟩ rfl rfl <| by
  intro (bs : Th (List Int)) (p : Th Int) ⟨(m : Th PMap), (c : Th Cll), (o : Th Sx.Ord), u⟩ K _ _ ho h
  obtain ⟨m, rfl⟩ := th_ex m; obtain ⟨c, rfl⟩ := th_ex c; obtain ⟨o, rfl⟩ := th_ex o
  refine ⟨noAnn, noAnn, 20, ?_⟩
  cbv
  repeat' first | ((with_reducible intro _); cbv) | ((with_reducible show _ ∧ _); (with_reducible apply And.intro))
  all_goals first | (refine retK h ?_; clear h; simp only [fin0]) | (with_reducible refine Ob.mk ?_; clear h) | (clear h)
  all_goals (try simp only [eta0, RT.bytes] at *)
  all_goals (try have hlt := place_ge (l := c.wlks) (id := o.who) (by assumption))
  all_goals (try simp only [setNth_app, nth_set_eq .wlk hlt, List.set_set, List.length_set, place_set] at *)
  all_goals have hf := @cllOk_facts m c
  all_goals have hoi := @ordOk_iff o
  all_goals have hwk := @cllOk_wlk m c
  all_goals have hsd := @cllOk_side m c
  all_goals have hpd := place_lt c.wlks o.dest
  all_goals (try have hwr := step_wrap (m := m) (c := c) (o := o) (by assumption) hlt (by assumption) (by assumption))
  all_goals (try simp only [hwr] at *)
  all_goals (try have hld := place_ge (l := c.wlks) (id := o.dest) (by assumption))
  all_goals (try have hne := place_ne (l := c.wlks) (a := o.who) (b := o.dest) (by assumption) (by assumption) (ord_give (by assumption) (by assumption)))
  all_goals (try simp only [set_swap hne, nth_set_ne .wlk hne, nth_set_ne .wlk hne.symm, nth_set_eq .wlk hlt, nth_set_eq .wlk hld] at *)
  all_goals grind [cllDoX, cllDo, doKind, doStep, doGive, doDrop, doPick, doThrow, cllFin, sendOuts, sendNext, zeroC, wrap_id, place_lt, place_ge]

end Go.Proofs.YtfgphaokmjdcbaaGreat

/-
  The law FnSrvTold.
-/
namespace Go.Proofs.YtfgphaokmjdcbaaGreat
open Go.Sx Go.Proofs Go.Mo
set_option maxRecDepth 100000
set_option maxHeartbeats 8000000
set_option linter.unusedSimpArgs false
set_option linter.unusedVariables false

noncomputable def sLawSrvTold : Sx.Spec := ⟨false, true, [.list .byte], [], fun _ _ _ => .ret (vB fun _ => true, fun _ => 0)⟩
theorem ncastSrvTold (n : Nat) : (NatCast.natCast n : Int) = (n : Int) := rfl
theorem ord_beqT {a : Go.Sx.Ord} {w s k d n : Int} : (decide (a.who = w) && (decide (a.seq = s) && (decide (a.kind = k) && (decide (a.dest = d) && (decide (a.n = n) && true))))) = decide (a = ⟨w, s, k, d, n⟩) := by
  obtain ⟨b1, b2, b3, b4, b5⟩ := a
  rw [Bool.eq_iff_iff]
  simp
theorem told_law {m : PMap} {s : Srv} {st : List Sto} {t : Arb} {v : Int} {x : Msg} (hl : ¬ ((srvHearX m s st t v x).out.length : Int) = 0) (hk : (nth .msg (srvHearX m s st t v x).out 0).kind = 3) :
    srvHas s x.cell = true ∧ wlkHas (srvHold s x.cell).state.wlks x.ord.who = true ∧ 0 ≤ x.cell ∧ x.cell < (srvHearX m s st t v x).stores.length ∧ x.cell < st.length ∧
    ((wlkFind (srvHold s x.cell).state.wlks x.ord.who).seq = x.ord.seq → (nth .msg (srvHearX m s st t v x).out 0).n = (wlkFind (srvHold s x.cell).state.wlks x.ord.who).last ∧ @Eq (List Sto) (srvHearX m s st t v x).stores st) ∧
    (¬ (wlkFind (srvHold s x.cell).state.wlks x.ord.who).seq = x.ord.seq → ¬ (nth .sto (srvHearX m s st t v x).stores x.cell.toNat).recs.length = 0 ∧
      (nth .rcd (nth .sto (srvHearX m s st t v x).stores x.cell.toNat).recs (IntKind.i64.wrap (((nth .sto (srvHearX m s st t v x).stores x.cell.toNat).recs.length : Int) - 1)).toNat).kind = 1 ∧ @Eq Go.Sx.Ord (nth .rcd (nth .sto (srvHearX m s st t v x).stores x.cell.toNat).recs (IntKind.i64.wrap (((nth .sto (srvHearX m s st t v x).stores x.cell.toNat).recs.length : Int) - 1)).toNat).ord x.ord ∧
      0 ≤ IntKind.i64.wrap (((nth .sto (srvHearX m s st t v x).stores x.cell.toNat).recs.length : Int) - 1) ∧ IntKind.i64.wrap (((nth .sto (srvHearX m s st t v x).stores x.cell.toNat).recs.length : Int) - 1) < ((nth .sto (srvHearX m s st t v x).stores x.cell.toNat).recs.length : Int) ∧
      (@Eq Cll (srvHold s x.cell).state (stoStateX m (nth .sto st x.cell.toNat)) → (cllDoX m (stoStateX m (nth .sto st x.cell.toNat)) x.ord).code = (nth .msg (srvHearX m s st t v x).out 0).n)) := by
  have hl' : ¬ (srvHearX m s st t v x).out.length = 0 := fun e => hl (by rw [e]; rfl)
  obtain ⟨a1, a2, a3, a4, a5, a6, a7⟩ := hrX_told hl' hk
  refine ⟨a1, a2, a3, a4, a5, a6, fun hn => ?_⟩
  obtain ⟨b1, b2, b3, b4⟩ := a7 hn
  have hns : ¬ (srvHearX m s st t v x).stores.length = 0 := by omega
  have hi : x.cell.toNat < (srvHearX m s st t v x).stores.length := by omega
  have hso := stoOk_iff.1 ((hrX_stays hns).2.1 _ hi)
  have hw : IntKind.i64.wrap (((nth .sto (srvHearX m s st t v x).stores x.cell.toNat).recs.length : Int) - 1) = (((nth .sto (srvHearX m s st t v x).stores x.cell.toNat).recs.length - 1 : Nat) : Int) := wrap_pred (by omega) (by have := hso.2.2.1; omega)
  rw [hw]
  exact ⟨b1, b2, b3, by omega, by omega, b4⟩
theorem okLawSrvTold : SpecOk1 Tryz.prog 9 sLawSrvTold := spec1 tabOk (ss := [(17, sDrawSrvHearE), (18, sSrvHear), (19, sSSrvHear), (20, sIsV), (21, sIsStores), (22, sIsNet), (24, sSrvNew), (23, sSrvOk), (31, sSrvHold), (32, sWlkFind), (34, sStoState), (33, sCllDo), (35, sStoState), (27, sIsC)]) ⟨okDrawSrvHearE, okSrvHear, okSSrvHear, okIsServer, okIsStores, okIsNet, okSrvNew, okSrvOk, okSSrvHold, okSWlkFind, okStoState, okCllDo, okSStoState, okIsCell, trivial⟩ rfl rfl <| by
  intro (bs : Th (List Int)) (p : Th Int) ⟨(a : Th (List Int)), u⟩ K _ _ ho h
  obtain ⟨a, rfl⟩ := th_ex a
  refine ⟨noAnn, noAnn, 20, ?_⟩
  cbv
  repeat' first | ((with_reducible intro _); cbv) | ((with_reducible show _ ∧ _); (with_reducible apply And.intro))
  all_goals first | (refine retK h ?_; clear h; simp only [fin0]) | (with_reducible refine Ob.mk ?_; clear h) | (clear h)
  all_goals (try simp only [eta0, RT.bytes] at *)
  all_goals (try dsimp only [RT.ty] at *)
  all_goals (try simp only [ncastSrvTold] at *)
  all_goals first | omega | exact wrap_succ (by omega) | skip
  all_goals first | exact srv_one | skip
  all_goals (try simp only [Int.toNat_zero] at *)
  all_goals (try simp only [ord_beqT] at *)
  all_goals (try have hG := told_law (by assumption) (by simp only [Classical.not_not] at *; assumption))
  all_goals (try dsimp only [RT.ty] at hG)
  all_goals (try clear ho)
  all_goals first | omega | grind
end Go.Proofs.YtfgphaokmjdcbaaGreat
