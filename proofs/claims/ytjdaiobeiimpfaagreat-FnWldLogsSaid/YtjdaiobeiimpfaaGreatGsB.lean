/-
  Contracts: a message brought, the program's way.
-/
import Derived.Test.YtjdaiobeiimpfaaGreatGrS
import Derived.Test.YtjdaiobeiimpfaaGreatGnQf
import Derived.Test.YtjdaiobeiimpfaaGreatGnJ
import Derived.Test.YtjdaiobeiimpfaaGreatGnR
set_option linter.unusedVariables false
set_option linter.unusedSimpArgs false
set_option maxRecDepth 100000
set_option maxHeartbeats 16000000
namespace Go.Sx
def St.upThin (σ : St) : St := ⟨σ.tm, σ.hp, σ.up.map thinTm⟩
end Go.Sx
namespace Go.Proofs.YtjdaiobeiimpfaaGreat
open Go.Sx Go.Proofs Go.Mo
theorem hearX_is {w : Wld} (hok : wldOk w = true) {i : Nat} (hi : i < w.net.length) (hd : ¬ (nth .msg w.net i).dest = -1) :
  srvHearX w.map (nth .srv w.servers (nth .msg w.net i).dest.toNat) w.stores w.table w.servers.length (nth .msg w.net i) = srvHears w.map (nth .srv w.servers (nth .msg w.net i).dest.toNat) w.stores w.table (nth .msg w.net i) := by
 have hF := wld_facts hok
 have hm := hF.2.2.2.2.2.1 i hi
 have hs := hF.2.2.2.2.2.2.1 (nth .msg w.net i).dest.toNat (by omega)
 rw [srvHearX, if_pos ⟨hs, hF.2.1, hF.1, hm.1⟩]
theorem bring_eq {w : Wld} (hok : wldOk w = true) {i : Nat} (hi : i < w.net.length) (hd : ¬ (nth .msg w.net i).dest = -1) {s : Srv} {st : List Sto} {out : List Msg}
  (h1 : @Eq Srv (srvHearX w.map (nth .srv w.servers (nth .msg w.net i).dest.toNat) w.stores w.table w.servers.length (nth .msg w.net i)).srv s) (h2 : @Eq (List Sto) (srvHearX w.map (nth .srv w.servers (nth .msg w.net i).dest.toNat) w.stores w.table w.servers.length (nth .msg w.net i)).stores st)
  (h3 : @Eq (List Msg) (srvHearX w.map (nth .srv w.servers (nth .msg w.net i).dest.toNat) w.stores w.table w.servers.length (nth .msg w.net i)).out out) :
  wSend ⟨w.map, w.servers.set (nth .msg w.net i).dest.toNat s, st, w.table, w.rows, w.net.eraseIdx i, w.notes⟩ out = wBring w i := by
 rw [← h1, ← h2, ← h3, hearX_is hok hi hd]
 unfold wBring
 simp only
 rw [if_neg hd]
 rfl
theorem bring_eq0 {w : Wld} (hok : wldOk w = true) {i : Nat} (hi : i < w.net.length) (hd : ¬ (nth .msg w.net i).dest = -1) {st : List Sto} {out : List Msg}
  (h1 : @Eq Srv (srvHearX w.map (nth .srv w.servers (nth .msg w.net i).dest.toNat) w.stores w.table w.servers.length (nth .msg w.net i)).srv (nth .srv w.servers (nth .msg w.net i).dest.toNat)) (h2 : @Eq (List Sto) (srvHearX w.map (nth .srv w.servers (nth .msg w.net i).dest.toNat) w.stores w.table w.servers.length (nth .msg w.net i)).stores st)
  (h3 : @Eq (List Msg) (srvHearX w.map (nth .srv w.servers (nth .msg w.net i).dest.toNat) w.stores w.table w.servers.length (nth .msg w.net i)).out out) :
  wSend ⟨w.map, w.servers, st, w.table, w.rows, w.net.eraseIdx i, w.notes⟩ out = wBring w i := by
 have := bring_eq hok hi hd h1 h2 h3
 have hs : w.servers.set (nth .msg w.net i).dest.toNat (nth .srv w.servers (nth .msg w.net i).dest.toNat) = w.servers := by
  apply List.ext_getElem (by simp)
  intro j h1 h2
  rw [List.getElem_set]
  split
  ·rename_i e
   subst e
   rw [nth_lt .srv _ _ h2]
  ·rfl
 rw [hs] at this
 exact this
theorem gate_eq {w : Wld} {i : Nat} (hd : (nth .msg w.net i).dest = -1) : wBring w i = ⟨w.map, w.servers, w.stores, w.table, (gwyHear w.map w.rows (nth .msg w.net i)).b, w.net.eraseIdx i, if (gwyHear w.map w.rows (nth .msg w.net i)).ok = true ∧ w.notes.length < 150 then w.notes ++ [⟨(nth .msg w.net i).ord.who, (nth .msg w.net i).ord.seq, (nth .msg w.net i).n⟩] else w.notes⟩ := by
 unfold wBring
 simp only
 rw [if_pos hd]
 rfl
theorem cut_few {w : Wld} (hok : wldOk w = true) (i : Nat) : (w.net.eraseIdx i).length ≤ 40 := Nat.le_trans (List.length_eraseIdx_le ..) (wld_facts hok).2.2.2.1
noncomputable def sBringP : Sx.Io := ⟨.row .wld, true, [.int .i64], [], fun w ⟨i, _⟩ => .asrt (fun _ => wldOk (w ()) = true ∧ 0 ≤ i () ∧ i () < (w ()).net.length) (.ret (.tup [], fun _ => wBring (w ()) (i ()).toNat))⟩
theorem okBringP : SpecOk1 Tryz.prog 67 (ioX sBringP) := io1 tabOk (ss := [(68, sDeleteMX), (112, sHoldPlace), (220, sState), (194, sInsertHX), (158, sRecord), (196, sWlkFind), (105, sCloneS), (154, sCloneC), (226, (ioX sAddP)), (181, (ioX sApplyP)), (198, sDeleteHX), (93, sPlcSide), (109, sArbServer), (64, (ioX sSendP)), (111, (ioX sHearP))]) ⟨okDeleteMX, okHoldAt, okState, okInsertHX, okRecord, okWlkFind, okCloneS, okCloneC, okAddP, okApplyP, okDeleteHX, okPlcSide, okArbServer, okSendP, okHearP, trivial⟩ rfl rfl <| by
 intro (w : Th Wld) ⟨(i : Th Int), u⟩ K _ ho h
 obtain ⟨w, rfl⟩ := th_ex w; obtain ⟨i, rfl⟩ := th_ex i
 obtain ⟨ha, h⟩ := h
 have ha := ha.out
 have ha : wldOk w = true ∧ 0 ≤ i ∧ i < w.net.length := ha
 obtain ⟨hok, hi0, hi1⟩ := ha
 have hF := wld_facts hok
 have hw1 : IntKind.i64.wrap (i + 1) = i + 1 := wrap_id (by have := hF.2.2.2.1; dsimp only at *; omega) (by have := hF.2.2.2.1; dsimp only at *; omega)
 refine ⟨annL [(157, 5, ⟨Nat, [], fun σ k => (σ.upThin.only [0, 2, 5, 7, 9, 10]).t 8 (vI fun _ => (k : Int)), fun _ k _ => k ≤ (nth .srv w.servers (nth .msg w.net i.toNat).dest.toNat).holds.length ∧ allTo k (cellLess (nth .srv w.servers (nth .msg w.net i.toNat).dest.toNat).holds (nth .msg w.net i.toNat).cell) = true, fun _ k _ => (nth .srv w.servers (nth .msg w.net i.toNat).dest.toNat).holds.length - k⟩)], noAnn, 20, ?_⟩
 cbv
 repeat' first | ((with_reducible refine fun (k : Nat) => ?_); cbv) | ((with_reducible intro _); cbv) | (with_reducible refine And.intro ?_ ?_)
 all_goals try ((first | (with_reducible refine LoopIn.mk ((0 : Nat)) ?_ ?_) | (with_reducible refine LoopBack.mk ((k + 1 : Nat)) ?_ ?_ ?_)) )
 all_goals try ((with_reducible show matchSt _ _); cbv; (try simp only [and_true, true_and]))
 all_goals try (repeat' with_reducible refine And.intro ?_ ?_)
 all_goals first | refine ioK h ?_ ?_ | (with_reducible refine Ob.mk ?_; clear h) | (clear h)
 all_goals (try clear h)
 all_goals (try clear K)
 all_goals (try simp only [fin0])
 all_goals (try simp only [eta0, RT.bytes] at *)
 all_goals (try dsimp only [RT.ty] at *)
 all_goals (try simp only [ncastQ] at *)
 all_goals (try simp only [set_th] at *)
 all_goals (try simp only [setNth_app] at *)
 all_goals (try clear ho ha)
 all_goals (try have hcf := cut_few hok i.toNat)
 all_goals first | omega | exact ⟨by omega, by omega⟩ | exact wrap_succ (by omega) | exact ⟨hcf, by simp⟩ | skip
 all_goals (try simp only [Classical.not_not] at *)
 all_goals (try have hge := gate_eq (by assumption : (nth .msg w.net i.toNat).dest = -1))
 all_goals (try have hM := hF.2.2.2.2.2.1 i.toNat (by omega))
 all_goals (try have hS := hF.2.2.2.2.2.2.1 (nth .msg w.net i.toNat).dest.toNat (by omega))
 all_goals (try have hF2 := hearI_facts hS hF.2.1 hM.1)
 all_goals (try (have hd2 : (nth .msg w.net i.toNat).dest.toNat < w.servers.length := by omega); simp only [nth_set_eq .srv hd2, List.set_set])
 all_goals first | refine bring_eq hok (by omega) (by assumption) ?_ ?_ ?_ | refine bring_eq0 hok (by omega) (by assumption) ?_ ?_ ?_ | skip
 all_goals (try dsimp only [RT.ty] at *)
 all_goals (try generalize nth .srv w.servers (nth .msg w.net i.toNat).dest.toNat = s at *)
 all_goals (try generalize nth .msg w.net i.toNat = x at *)
 all_goals (try rw [nth_set_eq .sto (by omega)] at *)
 all_goals (try (have hlt : (holdPlace s.holds x.cell).toNat < s.holds.length := by omega); simp only [nth_set_eq .hld hlt, List.set_set])
 all_goals first | omega | rfl | grind (splits := 40) [srvHearX, srvHears, srvGranted, srvAsked, srvTaken, srvWrite, hldWrite, srvHold, srvHas, msgTold, msgAway, zeroPcl, zeroGst, zeroOrd, msgGot, wrap_id, wrap_succ, stoAppend_eq, add_log, apply_cell, allTo_zero, allTo_succ, cellLess, srv_ext]
end Go.Proofs.YtjdaiobeiimpfaaGreat
