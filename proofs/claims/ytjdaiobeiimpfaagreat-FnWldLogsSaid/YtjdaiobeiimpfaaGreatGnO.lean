/-
  Contracts: a server hears, the reference's way.
-/
import Derived.Test.YtjdaiobeiimpfaaGreatGnC
import Derived.Test.YtjdaiobeiimpfaaGreatGnJ
import Derived.Test.YtjdaiobeiimpfaaGreatGrS
import Derived.Test.YtjdaiobeiimpfaaGreatM2
import Derived.Test.YtjdaiobeiimpfaaGreatM3
set_option linter.unusedVariables false
set_option linter.unusedSimpArgs false
set_option maxRecDepth 100000
set_option maxHeartbeats 8000000
namespace Go.Proofs.YtjdaiobeiimpfaaGreat
open Go.Sx Go.Proofs Go.Mo
noncomputable def sSSrvHear : Sx.Spec := ⟨false, false, [.map, .row .srv, .list .sto, .arb, .int .i64, .row .msg], [[none, some .hld, some .gst], [some .sto], [some .msg]], fun _ _ ⟨m, s, st, t, v, x, _⟩ =>
 .ret (.tup [rAs (encSrv fun _ => (srvHearX (m ()) (s ()) (st ()) (t ()) (v ()) (x ())).srv), vL .sto fun _ => (srvHearX (m ()) (s ()) (st ()) (t ()) (v ()) (x ())).stores, vL .msg fun _ => (srvHearX (m ()) (s ()) (st ()) (t ()) (v ()) (x ())).out], fun _ => 0)⟩
theorem set_th {t : RT} {l : Th (List t.ty)} {i : Th Int} {e : Th t.ty} {y : List t.ty} : (setNth t l i e = fun _ => y) ↔ (l ()).set (i ()).toNat (e ()) = y := ⟨fun h => congrFun h (), fun h => by funext u; exact h⟩
theorem got_eq {m : PMap} {t : Arb} {x : Msg} {n : Int} (hs : x.side = 0 ∨ x.side = 1) (hn : 1 ≤ n) : gotS m t x.cell x.side n = msgGot m t x n := by
 have hw : IntKind.i64.wrap (1 - x.side) = 1 - x.side := wrap_id (by omega) (by omega)
 have h0 : ¬ n = 0 := by omega
 simp only [gotS, msgGot, hw, h0, or_false]
theorem hear_facts {m : PMap} {s : Srv} {st : List Sto} {v : Int} {x : Msg} (h1 : srvOk m s = true) (h2 : stosOk m st = true) (h4 : msgOk m v x = true) :
  s.holds.length ≤ 9 ∧ (∀ h, hldPutS s.holds h = hldPut s.holds h) ∧ 0 ≤ x.cell ∧ x.cell < st.length ∧ stoOk m (nth .sto st x.cell.toNat) = true ∧
  (srvHas s x.cell = true → hldOk m (srvHold s x.cell) = true ∧ (srvHold s x.cell).state.cell = x.cell ∧ (srvHold s x.cell).state.ins.length = 2) ∧
  (x.kind = 7 → gstPutS m s.ghosts x.gst = gstRec s.ghosts x.gst) ∧ (x.kind = 1 → 1 ≤ x.n ∧ x.n ≤ 900) ∧ (x.kind = 5 → (x.side = 0 ∨ x.side = 1) ∧ 0 ≤ x.pcl.n) ∧
  (srvHas s x.cell = true → x.side = 0 ∨ x.side = 1 → @LE.le Int _ 0 (nth .int (srvHold s x.cell).state.ins x.side.toNat) ∧ @LE.le Int _ (nth .int (srvHold s x.cell).state.ins x.side.toNat) 5000) := by
 have hm4 := h4
 have hf := srv_few h1
 have hs := hsort_of h1
 simp only [msgOk, decide_eq_true_eq] at h4
 obtain ⟨hm, _, _, hc0, hc1, hkd⟩ := h4
 unfold stosOk at h2
 rw [Bool.and_eq_true] at h2
 obtain ⟨ha, hb⟩ := h2
 simp only [decide_eq_true_eq] at ha
 have hcell : x.cell < st.length := by rw [ha.2]; exact hc1
 have hk := (allTo_iff _ _).1 hb x.cell.toNat (by omega)
 simp only [stoAt, Bool.and_eq_true] at hk
 have hold : srvHas s x.cell = true → hldOk m (srvHold s x.cell) = true ∧ (srvHold s x.cell).state.cell = x.cell ∧ (srvHold s x.cell).state.ins.length = 2 := fun hh => by
  simp only [srvHas, decide_eq_true_eq] at hh
  have hlt := hold_lt s.holds x.cell
  have ho := srv_at h1 (k := (holdPlace s.holds x.cell).toNat) (by omega)
  have hcc := hold_cell hh
  have hff := cllOk_facts (hldOk_iff.1 ho).2.2
  rw [srvHold, if_pos hh]
  exact ⟨ho, hcc, hff.2.2.2.2.2.2.2.2⟩
 refine ⟨by omega, fun h => hldPutS_eq hs, hc0, hcell, hk.1, hold, fun hk7 => ?_, fun hk1 => ?_, fun hk5 => ?_, fun hh hsd => ?_⟩
 ·have hg : gstsOkS m s.ghosts = true := by
   simp only [srvOk, gstsOk, Bool.and_eq_true] at h1
   exact h1.1.1.2
  have hx : gstOk m x.gst = true := by
   simp only [msgKind, decide_eq_true_eq] at hkd
   grind
  exact gstPutS_eq hg hx
 ·simp only [msgKind, decide_eq_true_eq] at hkd
  grind
 ·have h5 := msg_side hm4 (.inl hk5)
  have h6 := (side_back h5).1
  have h7 := msg_pcl hm4 hk5
  refine ⟨h6, ?_⟩
  simp only [pclOk, decide_eq_true_eq] at h7
  omega
 ·exact ins_in (hldOk_iff.1 (hold hh).1).2.2 (by omega)
theorem okSSrvHear : SpecOk1 Tryz.prog 119 sSSrvHear := spec1 tabOk (ss := [(84, sSrvOk), (36, sStosOk), (35, sArbOk), (85, sMsgOk), (81, sCloneV), (79, sCloneSs), (120, sSrvHold), (199, sHldOpen), (200, sWith), (165, sGstPutS), (201, sWlkFind), (203, sHldWrite), (204, sWithout), (202, sGot)]) ⟨okSSrvOk, okSStosOk, okSArbOk, okSMsgOk, okL11Copy, okL11Stores, okSSrvHold, okSHldOpen, okL11With, okSGstPut, okSWlkFind, okSHldWrite, okL11Without, okL11Got, trivial⟩ rfl rfl <| by
 intro (bs : Th (List Int)) (p : Th Int) ⟨(m : Th PMap), (s : Th Srv), (st : Th (List Sto)), (t : Th Arb), (v : Th Int), (x : Th Msg), u⟩ K _ _ ho h
 obtain ⟨m, rfl⟩ := th_ex m; obtain ⟨s, rfl⟩ := th_ex s; obtain ⟨st, rfl⟩ := th_ex st; obtain ⟨t, rfl⟩ := th_ex t; obtain ⟨v, rfl⟩ := th_ex v; obtain ⟨x, rfl⟩ := th_ex x
 refine ⟨noAnn, noAnn, 20, ?_⟩
 have hf := @hear_facts m s st v x
 cbv
 repeat' first | ((with_reducible intro _); cbv) | (with_reducible refine And.intro ?_ ?_)
 all_goals first | (refine retK h ?_; clear h; simp only [fin0]) | (with_reducible refine Ob.mk ?_; clear h) | (clear h)
 all_goals (try simp only [eta0, RT.bytes] at *)
 all_goals (try simp only [set_th] at *)
 all_goals (try clear bs p u K)
 all_goals (try simp only [Bool.not_eq_true', Bool.not_eq_false', bne_iff_ne, ne_eq] at *)
 all_goals (grind (splits := 40) [srvHearX, srvHears, srvGranted, srvAsked, srvTaken, srvWrite, hldOpen, msgTold, msgAway, zeroPcl, zeroGst, zeroOrd, got_eq, wrap_id, wrap_succ])
end Go.Proofs.YtjdaiobeiimpfaaGreat
