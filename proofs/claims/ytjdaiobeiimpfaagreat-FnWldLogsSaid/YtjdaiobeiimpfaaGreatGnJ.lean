/-
  Contracts: what a server says towards a side, the reference's way.
-/
import Derived.Test.YtjdaiobeiimpfaaGreatGnC
import Derived.Test.YtjdaiobeiimpfaaGreatGrT
import Derived.Test.YtjdaiobeiimpfaaGreatM2
import Derived.Test.YtjdaiobeiimpfaaGreatM3
import Derived.Test.YtjdaiobeiimpfaaGreatGnF
import Derived.Test.YtjdaiobeiimpfaaGreatFnFb
set_option linter.unusedVariables false
set_option linter.unusedSimpArgs false
set_option maxRecDepth 100000
set_option maxHeartbeats 8000000
namespace Go.Proofs.YtjdaiobeiimpfaaGreat
open Go.Sx Go.Proofs Go.Mo
noncomputable def sTowards : Sx.Spec := ⟨false, true, [.map, .arb, .row .hld, .int .i64], [[some .msg]], fun _ _ ⟨m, t, h, s, _⟩ => .asrt (fun _ => hldOk (m ()) (h ()) = true ∧ 0 ≤ s () ∧ s () ≤ 1) (.ret (vW .msg fun _ => towards (m ()) (t ()) (h ()) (s ()), fun _ => 0))⟩
theorem okL11Towards : SpecOk1 Tryz.prog 121 sTowards := spec1 tabOk (ss := [(129, sPlcSide), (117, sArbServer), (169, sGstOf)]) ⟨okSPlcSide, okSArbServer, okSGstOf, trivial⟩ rfl rfl <| by
 intro (bs : Th (List Int)) (p : Th Int) ⟨(m : Th PMap), (t : Th Arb), (h0 : Th Hld), (s : Th Int), u⟩ K _ _ ho h
 obtain ⟨m, rfl⟩ := th_ex m; obtain ⟨t, rfl⟩ := th_ex t; obtain ⟨h0, rfl⟩ := th_ex h0; obtain ⟨s, rfl⟩ := th_ex s
 obtain ⟨ha, h⟩ := h
 have ha := ha.out
 have hh : hldOk m h0 = true := ha.1
 have hs0 : 0 ≤ s := ha.2.1
 have hs1 : s ≤ 1 := ha.2.2
 clear ha
 have hf := cllOk_facts (hldOk_iff.1 hh).2.2
 have hw := wrap_id (n := 1 - s) (by omega) (by omega)
 have hz := pclsTo_len m t h0 s
 have hy := gstsTo_len m t h0 s
 have e1 := fun k => @pclsTo_end m t h0 s k
 have e2 := fun k => @gstsTo_end m t h0 s k
 have s1 := fun k => @pclsTo_succ m t h0 s k
 have s2 := fun k => @gstsTo_succ m t h0 s k
 refine ⟨annL [(121, 7, ⟨Nat, [⟨.tmp 9 0, some 16, .msg⟩], fun σ k => (((σ.fg 16).t 12 (vI fun _ => (k : Int))).t 9 (vO 16 1)).row 16 1 .msg (fun _ => pclsTo m t h0 s k), fun _ k _ => k ≤ (nth .pcls h0.state.outs s.toNat).length ∧ k ≤ 4, fun _ k _ => 4 - k⟩), (121, 12, ⟨Nat, [⟨.tmp 9 0, some 16, .msg⟩], fun σ k => (((σ.fg 16).t 14 (vI fun _ => (k : Int))).t 9 (vO 16 1)).row 16 1 .msg (fun _ => pclsTo m t h0 s 4 ++ gstsTo m t h0 s k), fun _ k _ => k ≤ (ghosts m h0 s).length ∧ k ≤ 4, fun _ k _ => 4 - k⟩)], noAnn, 20, ?_⟩
 cbv
 repeat' first | ((with_reducible refine fun (k : Nat) => ?_); cbv) | ((with_reducible intro _); cbv) | (with_reducible refine And.intro ?_ ?_)
 all_goals try ((first | (with_reducible refine LoopIn.mk ((0 : Nat)) ?_ ?_) | (with_reducible refine LoopBack.mk ((k + 1 : Nat)) ?_ ?_ ?_)) )
 all_goals try ((with_reducible show matchSt _ _); cbv; (try simp only [and_true, true_and]))
 all_goals try (repeat' with_reducible refine And.intro ?_ ?_)
 all_goals first | (refine retK h ?_; clear h; simp only [fin0]) | (with_reducible refine Ob.mk ?_; clear h) | (clear h)
 all_goals (try simp only [eta0, RT.bytes] at *)
 all_goals (try simp only [hw, hh, if_true] at *)
 all_goals grind (splits := 30) [wrap_succ, wrap_id, pclsTo_zero, gstsTo_zero, pclMsg, gstMsg, towards, zeroOrd, zeroPcl, zeroGst]
def srvTickS (m : PMap) (s : Srv) (t : Arb) (servers cell : Int) : List Msg :=
 if srvOk m s = true ∧ arbOk m t servers = true ∧ srvHas s cell = true then towards m t (srvHold s cell) 0 ++ towards m t (srvHold s cell) 1 else []
theorem towards_len (m : PMap) (t : Arb) (h : Hld) (s : Int) : (towards m t h s).length ≤ 8 := by
 unfold towards
 split
 ·simp
 ·have h1 := pclsTo_len m t h s 4
  have h2 := gstsTo_len m t h s 4
  simp; omega
theorem srv_hold_ok {m : PMap} {s : Srv} {cell : Int} (h : srvOk m s = true) (h2 : srvHas s cell = true) : hldOk m (srvHold s cell) = true := by
 simp only [srvHas, decide_eq_true_eq] at h2
 have := hold_lt s.holds cell
 rw [srvHold, if_pos h2]
 exact srv_at h (by omega)
noncomputable def sSrvTick : Sx.Spec := ⟨false, true, [.map, .row .srv, .arb, .int .i64, .int .i64], [[some .msg]], fun _ _ ⟨m, s, t, v, c, _⟩ => .ret (vW .msg fun _ => srvTickS (m ()) (s ()) (t ()) (v ()) (c ()), fun _ => 0)⟩
theorem okSSrvTick : SpecOk1 Tryz.prog 77 sSrvTick := spec1 tabOk (ss := [(84, sSrvOk), (35, sArbOk), (120, sSrvHold), (121, sTowards)]) ⟨okSSrvOk, okSArbOk, okSSrvHold, okL11Towards, trivial⟩ rfl rfl <| by
 intro (bs : Th (List Int)) (p : Th Int) ⟨(m : Th PMap), (s : Th Srv), (t : Th Arb), (v : Th Int), (c : Th Int), u⟩ K _ _ ho h
 obtain ⟨m, rfl⟩ := th_ex m; obtain ⟨s, rfl⟩ := th_ex s; obtain ⟨t, rfl⟩ := th_ex t; obtain ⟨v, rfl⟩ := th_ex v; obtain ⟨c, rfl⟩ := th_ex c
 have hq := @srv_hold_ok m s c
 have h1 := towards_len m t (srvHold s c) 0
 have h2 := towards_len m t (srvHold s c) 1
 refine ⟨noAnn, noAnn, 20, ?_⟩
 cbv
 repeat' first | ((with_reducible intro _); cbv) | (with_reducible refine And.intro ?_ ?_)
 all_goals first | (refine retK h ?_; clear h; simp only [fin0]) | (with_reducible refine Ob.mk ?_; clear h) | (clear h)
 all_goals (try simp only [eta0, RT.bytes] at *)
 all_goals grind [srvTickS]
noncomputable def nWld : List (Option RT) := [none, none, some .srv, some .sto, some .int, some .int, some .row, some .msg, some .note]
noncomputable def sWCopy : Sx.Spec := ⟨false, true, [.row .wld], [nWld], fun _ _ ⟨w, _⟩ => .ret (oWld w, fun _ => 0)⟩
theorem okL13Copy : SpecOk1 Tryz.prog 33 sWCopy := spec1 tabOk (ss := [(79, sCloneSs), (80, sCloneB), (81, sCloneV)]) ⟨okL11Stores, okL12Copy, okL11Copy, trivial⟩ rfl rfl <| by
 intro (bs : Th (List Int)) (p : Th Int) ⟨(w : Th Wld), u⟩ K _ _ ho h
 obtain ⟨w, rfl⟩ := th_ex w
 have hb0 := okB (ho.1 _ (.tail _ (.tail _ (.head _))))
 have hb3 := okB (ho.1 _ (.tail _ (.tail _ (.tail _ (.tail _ (.head _))))))
 have hb4 := okB (ho.1 _ (.tail _ (.tail _ (.tail _ (.tail _ (.tail _ (.head _)))))))
 have hb6 := okB (ho.1 _ (.tail _ (.tail _ (.tail _ (.tail _ (.tail _ (.tail _ (.tail _ (.head _)))))))))
 have hb7 := okB (ho.1 _ (.tail _ (.tail _ (.tail _ (.tail _ (.tail _ (.tail _ (.tail _ (.tail _ (.head _))))))))))
 have hs := fun k => @pre_succ .srv w.servers k
 have hz := pre_len w.servers
 refine ⟨annL [(33, 4, ⟨Nat, [⟨.cell 4 2, some 51, .srv⟩], fun σ k => (((σ.fgs [51, 14, 18, 23, 28]).t 4 (vI fun _ => (k : Int))).cellC 4 2 (.own 51 1)).row 51 1 .srv (fun _ => pre w.servers k), fun _ k _ => k ≤ w.servers.length, fun _ k _ => w.servers.length - k⟩)], noAnn, 20, ?_⟩
 cbv
 repeat' first | ((with_reducible refine fun (k : Nat) => ?_); cbv) | ((with_reducible intro _); cbv) | (with_reducible refine And.intro ?_ ?_)
 all_goals try ((first | (with_reducible refine LoopIn.mk ((0 : Nat)) ?_ ?_) | (with_reducible refine LoopBack.mk ((k + 1 : Nat)) ?_ ?_ ?_)) )
 all_goals try ((with_reducible show matchSt _ _); cbv; (try simp only [and_true, true_and]))
 all_goals try (repeat' with_reducible refine And.intro ?_ ?_)
 all_goals first | (refine retK h ?_; clear h; simp only [fin0]) | (with_reducible refine Ob.mk ?_; clear h) | (clear h)
 all_goals (try simp only [eta0, RT.bytes] at *)
 all_goals (try grind [pre_zero, pre_all, wrap_succ])
theorem ncastT (n : Nat) : (NatCast.natCast n : Int) = (n : Int) := rfl
theorem towards_tick (m : PMap) (t : Arb) (h : Hld) (cell side : Int) (hc : h.state.cell = cell) : towards m t h side = tickSide m t h cell side := by
 subst hc
 rfl
theorem tick_eq {m : PMap} {s : Srv} {t : Arb} {v c : Int} (h1 : srvOk m s = true) (h2 : arbOk m t v = true) : srvTickS m s t v c = srvTick m s t c := by
 simp only [srvTickS, srvTick, h1, h2, true_and]
 split
 ·rename_i hh
  have hcc : (srvHold s c).state.cell = c := by
   simp only [srvHas, decide_eq_true_eq] at hh
   rw [srvHold, if_pos hh]
   exact hold_cell hh
  rw [towards_tick m t _ c 0 hcc, towards_tick m t _ c 1 hcc]
 ·rfl
theorem send_end {l : List Msg} {n k : Nat} (h1 : k ≤ l.length) (h2 : n + k ≤ 40) (h3 : k < l.length → ¬ n + k < 40) : l.take k = l.take (40 - n) := by
 by_cases hk : k < l.length
 ·have := h3 hk
  rw [show k = 40 - n by omega]
 ·rw [List.take_of_length_le (by omega), List.take_of_length_le (by omega)]
theorem send_app {a l : List Msg} {k : Nat} (h1 : k ≤ l.length) (h2 : a.length + k ≤ 40) (h3 : k < l.length → ¬ (a.length + (l.take k).length) < 40) : a ++ l.take k = a ++ l.take (40 - a.length) := by
 have h4 : (l.take k).length = k := by simp; omega
 rw [h4] at h3
 rw [send_end h1 h2 h3]
theorem cutTo_end {l : List Msg} {i k : Nat} (h : k ≤ l.length) (h2 : ¬ k < l.length) : cutTo l i k = l.eraseIdx i := by
 rw [show k = l.length by omega]
 exact cutTo_all l i
theorem send_cut {l o : List Msg} {i k j : Nat} (hk : k ≤ l.length) (hk2 : ¬ k < l.length) (h1 : j ≤ o.length) (h2 : (cutTo l i k).length + j ≤ 40) (h3 : j < o.length → ¬ ((cutTo l i k).length + (o.take j).length) < 40) : cutTo l i k ++ o.take j = l.eraseIdx i ++ o.take (40 - (l.eraseIdx i).length) := by
 rw [cutTo_end hk hk2] at *
 exact send_app h1 h2 h3
theorem take_len' {l : List Msg} {k : Nat} (h : k ≤ l.length) : (l.take k).length = k := by simp; omega
theorem take_more {l : List Msg} {k : Nat} (h : k < l.length) : l.take (k + 1) = l.take k ++ [nth .msg l k] := pre_succ .msg h
theorem wld_facts {w : Wld} (h : wldOk w = true) : arbOk w.map w.table w.servers.length = true ∧ stosOk w.map w.stores = true ∧ gwyOk w.map w.rows = true ∧ w.net.length ≤ 40 ∧ w.notes.length ≤ 150 ∧
  (∀ i, i < w.net.length → msgOk w.map w.servers.length (nth .msg w.net i) = true ∧ -1 ≤ (nth .msg w.net i).dest ∧ (nth .msg w.net i).dest < w.servers.length) ∧ (∀ i, i < w.servers.length → srvOk w.map (nth .srv w.servers i) = true) ∧ 1 ≤ w.servers.length ∧ w.servers.length ≤ 3 := by
 obtain ⟨h1, h2, h3, h4, h5, h6, h7, h8, h9⟩ := wldOk_iff.1 h
 have ha := arb_len h1
 refine ⟨h1, h2, h3, h4, h5, fun i hi => ?_, fun i hi => (h7 _ (nth_mem .srv hi)).1, by omega, by omega⟩
 have hm := (h8 _ (nth_mem .msg hi)).1
 refine ⟨hm, ?_⟩
 simp only [msgOk, msgKind, decide_eq_true_eq] at hm
 omega
theorem grant_len {m : PMap} {t : Arb} {v cell server : Int} (ht : arbOk m t v = true) (hg : (arbGrantX m t v cell server).ok = true) : 0 ≤ cell ∧ cell < (arbGrantX m t v cell server).t.ages.length := by
 have := arb_len ht
 simp only [arbGrantX, if_pos ht] at hg ⊢
 unfold arbGrant at hg ⊢
 split at hg
 ·rename_i hc
  rw [if_pos hc]
  simp only [List.length_set]
  omega
 ·cases hg
theorem in_len (p : Int) (n : Nat) (hn : (n : Int) ≤ 1000000) : inR p 0 (IntKind.i64.wrap ((n : Int) - 1)) = decide (0 ≤ p ∧ p < (n : Int)) := by
 rw [wrap_id (by omega) (by omega)]
 simp only [inR]
 congr 1
 simp only [eq_iff_iff]
 omega
section
variable {w : Wld} {e : Evt} (h : wldOk w = true)
include h
theorem step_1 (hk : e.kind = 1) : wldStep w e = if (arbGrantX w.map w.table w.servers.length e.pos e.dest).ok = true then ⟨w.map, w.servers, w.stores, (arbGrantX w.map w.table w.servers.length e.pos e.dest).t, w.rows, w.net ++ ([⟨1, e.dest, e.pos, 0, nth .int (arbGrantX w.map w.table w.servers.length e.pos e.dest).t.ages e.pos.toNat, ⟨0, 0, 0, 0, 0⟩, ⟨0, 0, ⟨0, 0, 0, 0, 0⟩, 0⟩, ⟨0, 0, ⟨0, 0, 0, 0, 0⟩⟩⟩] : List Msg).take (40 - w.net.length), w.notes⟩ else w := by
 have hF := wld_facts h
 simp only [wldStep, wStep, h, hk, if_true, arbGrantX, hF.1, wSend, zeroOrd, zeroPcl, zeroGst]
theorem step_2 (hk : e.kind = 2) : wldStep w e = ⟨w.map, w.servers, w.stores, w.table, (gwyAskX w.map w.rows e.pos e.what e.dest e.n).b, w.net, w.notes⟩ := by
 have hF := wld_facts h
 simp [wldStep, wStep, h, hk, gwyAskX, hF.2.2.1]
theorem step_3 (hk : e.kind = 3) : wldStep w e = if (gwySayX w.map w.rows w.table w.servers.length e.pos).ok = true then ⟨w.map, w.servers, w.stores, w.table, w.rows, w.net ++ [(gwySayX w.map w.rows w.table w.servers.length e.pos).x].take (40 - w.net.length), w.notes⟩ else w := by
 have hF := wld_facts h
 simp [wldStep, wStep, h, hk, gwySayX, hF.1, hF.2.2.1, wSend]
theorem step_4n (hk : e.kind = 4) (hn : ¬ (0 ≤ e.pos ∧ e.pos < (w.net.length : Int))) : wldStep w e = w := by
 simp only [wldStep, wStep, h, hk, if_true]
 rw [if_neg (by decide), if_neg (by decide), if_neg (by decide), if_pos (by decide), if_neg hn]
theorem step_4g (hk : e.kind = 4) (hn : 0 ≤ e.pos ∧ e.pos < (w.net.length : Int)) (hd : (nth .msg w.net e.pos.toNat).dest = -1) : wldStep w e = ⟨w.map, w.servers, w.stores, w.table, (gwyHearX w.map w.rows w.servers.length (nth .msg w.net e.pos.toNat)).b, w.net.eraseIdx e.pos.toNat,
  if (gwyHearX w.map w.rows w.servers.length (nth .msg w.net e.pos.toNat)).ok = true ∧ w.notes.length < 150 then w.notes ++ [⟨(nth .msg w.net e.pos.toNat).ord.who, (nth .msg w.net e.pos.toNat).ord.seq, (nth .msg w.net e.pos.toNat).n⟩] else w.notes⟩ := by
 have hF := wld_facts h
 have hm := (hF.2.2.2.2.2.1 e.pos.toNat (by omega)).1
 have hx : gwyHearX w.map w.rows w.servers.length (nth .msg w.net e.pos.toNat) = gwyHear w.map w.rows (nth .msg w.net e.pos.toNat) := by rw [gwyHearX, if_pos ⟨hF.2.2.1, hm⟩]
 rw [hx]
 simp only [wldStep, wStep, h, hk, if_true]
 rw [if_neg (by decide), if_neg (by decide), if_neg (by decide), if_pos (by decide), if_pos hn]
 simp only [wBring, hd, if_true, wGate, wCut]
 rfl
theorem step_4h (hk : e.kind = 4) (hn : 0 ≤ e.pos ∧ e.pos < (w.net.length : Int)) (hd : ¬ (nth .msg w.net e.pos.toNat).dest = -1) : wldStep w e = ⟨w.map, w.servers.set (nth .msg w.net e.pos.toNat).dest.toNat (srvHearX w.map (nth .srv w.servers (nth .msg w.net e.pos.toNat).dest.toNat) w.stores w.table w.servers.length (nth .msg w.net e.pos.toNat)).srv,
  (srvHearX w.map (nth .srv w.servers (nth .msg w.net e.pos.toNat).dest.toNat) w.stores w.table w.servers.length (nth .msg w.net e.pos.toNat)).stores, w.table, w.rows, w.net.eraseIdx e.pos.toNat ++ (srvHearX w.map (nth .srv w.servers (nth .msg w.net e.pos.toNat).dest.toNat) w.stores w.table w.servers.length (nth .msg w.net e.pos.toNat)).out.take (40 - (w.net.eraseIdx e.pos.toNat).length), w.notes⟩ := by
 have hF := wld_facts h
 have hm := hF.2.2.2.2.2.1 e.pos.toNat (by omega)
 have hs := hF.2.2.2.2.2.2.1 (nth .msg w.net e.pos.toNat).dest.toNat (by omega)
 have hx : srvHearX w.map (nth .srv w.servers (nth .msg w.net e.pos.toNat).dest.toNat) w.stores w.table w.servers.length (nth .msg w.net e.pos.toNat) = srvHears w.map (nth .srv w.servers (nth .msg w.net e.pos.toNat).dest.toNat) w.stores w.table (nth .msg w.net e.pos.toNat) := by rw [srvHearX, if_pos ⟨hs, hF.2.1, hF.1, hm.1⟩]
 rw [hx]
 simp only [wldStep, wStep, h, hk, if_true]
 rw [if_neg (by decide), if_neg (by decide), if_neg (by decide), if_pos (by decide), if_pos hn]
 simp only [wBring, hd, if_false, wHear, wCut, wSend]
theorem step_5 (hk : e.kind = 5) : wldStep w e = if 0 ≤ e.pos ∧ e.pos < (w.net.length : Int) then ⟨w.map, w.servers, w.stores, w.table, w.rows, w.net.eraseIdx e.pos.toNat, w.notes⟩ else w := by
 simp only [wldStep, wStep, h, hk, if_true]
 rw [if_neg (by decide), if_neg (by decide), if_neg (by decide), if_pos (by decide)]
 by_cases hp : 0 ≤ e.pos ∧ e.pos < (w.net.length : Int)
 ·rw [if_pos hp, if_pos hp, if_neg (by decide)]
  rfl
 ·rw [if_neg hp, if_neg hp]
theorem step_6 (hk : e.kind = 6) : wldStep w e = if 0 ≤ e.pos ∧ e.pos < (w.net.length : Int) then ⟨w.map, w.servers, w.stores, w.table, w.rows, w.net ++ [nth .msg w.net e.pos.toNat].take (40 - w.net.length), w.notes⟩ else w := by
 simp only [wldStep, wStep, h, hk, if_true]
 rw [if_neg (by decide), if_neg (by decide), if_neg (by decide), if_pos (by decide)]
 by_cases hp : 0 ≤ e.pos ∧ e.pos < (w.net.length : Int)
 ·rw [if_pos hp, if_pos hp, if_neg (by decide), if_neg (by decide)]
  rfl
 ·rw [if_neg hp, if_neg hp]
theorem step_7 (hk : e.kind = 7) : wldStep w e = if 0 ≤ e.pos ∧ e.pos < (w.servers.length : Int) then ⟨w.map, w.servers, w.stores, w.table, w.rows, w.net ++ (srvTickS w.map (nth .srv w.servers e.pos.toNat) w.table w.servers.length e.dest).take (40 - w.net.length), w.notes⟩ else w := by
 have hF := wld_facts h
 simp only [wldStep, wStep, h, hk, if_true]
 rw [if_neg (by decide), if_neg (by decide), if_neg (by decide), if_neg (by decide), if_pos (by decide)]
 by_cases hp : 0 ≤ e.pos ∧ e.pos < (w.servers.length : Int)
 ·rw [if_pos hp, if_pos hp, tick_eq (hF.2.2.2.2.2.2.1 e.pos.toNat (by omega)) hF.1]
  rfl
 ·rw [if_neg hp, if_neg hp]
theorem step_8 (hk : e.kind = 8) : wldStep w e = if 0 ≤ e.pos ∧ e.pos < (w.servers.length : Int) then ⟨w.map, w.servers.set e.pos.toNat ⟨false, [], []⟩, w.stores, w.table, w.rows, w.net, w.notes⟩ else w := by
 simp only [wldStep, wStep, h, hk, if_true]
 rw [if_neg (by decide), if_neg (by decide), if_neg (by decide), if_neg (by decide), if_pos (by decide)]
 by_cases hp : 0 ≤ e.pos ∧ e.pos < (w.servers.length : Int)
 ·rw [if_pos hp, if_pos hp, if_neg (by decide)]
 ·rw [if_neg hp, if_neg hp]
theorem step_9 (hk : e.kind = 9) : wldStep w e = if 0 ≤ e.pos ∧ e.pos < (w.servers.length : Int) ∧ (nth .srv w.servers e.pos.toNat).up = false then ⟨w.map, w.servers.set e.pos.toNat ⟨true, [], []⟩, w.stores, w.table, w.rows, w.net, w.notes⟩ else w := by
 simp only [wldStep, wStep, h, hk, if_true]
 rw [if_neg (by decide), if_neg (by decide), if_neg (by decide), if_neg (by decide), if_pos (by decide)]
 by_cases hp : 0 ≤ e.pos ∧ e.pos < (w.servers.length : Int)
 ·rw [if_pos hp, if_neg (by decide), if_neg (by decide)]
  by_cases hu : (nth .srv w.servers e.pos.toNat).up = false
  ·rw [if_pos hu, if_pos ⟨hp.1, hp.2, hu⟩]
  ·rw [if_neg hu, if_neg (fun hq => hu hq.2.2)]
 ·rw [if_neg hp, if_neg (fun hq => hp ⟨hq.1, hq.2.1⟩)]
theorem step_no (h1 : ¬ e.kind = 1) (h2 : ¬ e.kind = 2) (h3 : ¬ e.kind = 3) (h4 : ¬ e.kind = 4) (h5 : ¬ e.kind = 5) (h6 : ¬ e.kind = 6) (h7 : ¬ e.kind = 7) (h8 : ¬ e.kind = 8) (h9 : ¬ e.kind = 9) : wldStep w e = w := by
 simp only [wldStep, wStep, h, if_true]
 rw [if_neg h1, if_neg h2, if_neg h3, if_neg (by omega), if_neg (by omega)]
end
theorem step_bad {w : Wld} {e : Evt} (h : wldOk w = false) : wldStep w e = zeroWld := by simp [wldStep, h]
end Go.Proofs.YtjdaiobeiimpfaaGreat
namespace Go.Proofs.YtjdaiobeiimpfaaGreat
open Go.Sx Go.Proofs Go.Mo
noncomputable def sGwyHear : Sx.Spec := ⟨false, true, [.map, .book, .int .i64, .row .msg], [[some .row], [none]], fun _ _ ⟨m, l, s, x, _⟩ => .ret (.tup [oAs [.list .row fun _ => (gwyHearX (m ()) (l ()) (s ()) (x ())).b], vB fun _ => (gwyHearX (m ()) (l ()) (s ()) (x ())).ok], fun _ => 0)⟩
theorem okSGwyHear : SpecOk1 Tryz.prog 163 sGwyHear := spec1 tabOk (ss := [(37, sGwyOk), (85, sMsgOk), (80, sCloneB), (115, sRowPlace)]) ⟨okSGwyOk, okSMsgOk, okL12Copy, okL12At, trivial⟩ rfl rfl <| by
 intro (bs : Th (List Int)) (p : Th Int) ⟨(m : Th PMap), (l : Th (List Row)), (s : Th Int), (x : Th Msg), u⟩ K _ _ ho h
 obtain ⟨m, rfl⟩ := th_ex m; obtain ⟨l, rfl⟩ := th_ex l; obtain ⟨s, rfl⟩ := th_ex s; obtain ⟨x, rfl⟩ := th_ex x
 have hp := row_lt l x.ord.who
 have hlt0 : ¬ rowPlace l x.ord.who = -1 → (rowPlace l x.ord.who).toNat < l.length := fun h => by omega
 have hq := fun (h : gwyOk m l = true) => gwy_cellB h
 have hr := @cell_rem (nth .row l (rowPlace l x.ord.who).toNat).cell m.cells
 refine ⟨noAnn, noAnn, 20, ?_⟩
 cbv
 repeat' first | ((with_reducible intro _); cbv) | (with_reducible refine And.intro ?_ ?_)
 all_goals first | (refine retK h ?_; clear h; simp only [fin0]) | (with_reducible refine Ob.mk ?_; clear h) | (clear h)
 all_goals (try simp only [eta0, RT.bytes] at *)
 all_goals (try have hlt := hlt0 (by assumption))
 all_goals (try (have hz := hq (by assumption); obtain ⟨hm1, hm2, hc⟩ := hz))
 all_goals (try have hw := wrap_id (n := (nth .row l (rowPlace l x.ord.who).toNat).cell + 1) (by have := hc _ hlt; omega) (by have := hc _ hlt; omega))
 all_goals (try simp only [nth_set_eq .row hlt, List.set_set, List.length_set] at *)
 all_goals (try simp only [setNth_fnI, nth_set_eq .row hlt, List.set_set, List.length_set, th_eq, thp_eq] at *)
 all_goals (try simp only [hw] at *)
 all_goals (try simp only [gwyHearX, gwyHear, Mo.rowAt] at *)
 all_goals (try generalize ((nth RT.row l (rowPlace l x.ord.who).toNat).cell + 1).tmod m.cells = q at *)
 all_goals grind [zeroOrd, ord_ext]
noncomputable def sServersOk : Sx.Spec := ⟨false, true, [.row .wld], [], fun _ _ ⟨w, _⟩ => .asrt (fun _ => arbOk (w ()).map (w ()).table (w ()).servers.length = true) (.ret (vB fun _ => srvsIn (w ()), fun _ => 0))⟩
noncomputable def sNetOk : Sx.Spec := ⟨false, true, [.row .wld], [], fun _ _ ⟨w, _⟩ => .asrt (fun _ => arbOk (w ()).map (w ()).table (w ()).servers.length = true) (.ret (vB fun _ => msgsIn (w ()), fun _ => 0))⟩
noncomputable def sNotesOk : Sx.Spec := ⟨false, true, [.list .note], [], fun _ _ ⟨l, _⟩ => .ret (vB fun _ => notesIn (l ()), fun _ => 0)⟩
noncomputable def sWldOk : Sx.Spec := ⟨false, true, [.row .wld], [], fun _ _ ⟨w, _⟩ => .ret (vB fun _ => wldOk (w ()), fun _ => 0)⟩
theorem okServersOk : SpecOk1 Tryz.prog 38 sServersOk := spec1 tabOk (ss := [(84, sSrvOk)]) ⟨okSSrvOk, trivial⟩ rfl rfl <| by
 intro (bs : Th (List Int)) (p : Th Int) ⟨(w : Th Wld), u⟩ K _ _ ho h
 obtain ⟨w, rfl⟩ := th_ex w
 obtain ⟨ha, h⟩ := h
 have ha := ha.out
 have ht := arb_len ha
 have hl := okL (ho.1 _ (.tail _ (.tail _ (.head _))))
 have hn := fun (k : Nat) => @srv_few w.map (nth .srv w.servers k)
 have hi := fun (k j : Nat) => @hold_in w.map (nth .srv w.servers k) j
 refine ⟨annL [(38, 2, ⟨Nat × Unit, [], fun σ q => σ.t 3 (vI fun _ => (q.1 : Int)), fun _ q _ => q.1 ≤ w.servers.length ∧ allTo q.1 (srvIn w) = true, fun _ q _ => w.servers.length - q.1⟩),
  (38, 7, ⟨Nat, [], fun σ k => σ.t 4 (vI fun _ => (k : Int)), fun σ k _ => k ≤ (nth .srv w.servers (σ.nat 3)).holds.length ∧ σ.nat 3 < w.servers.length ∧ srvOk w.map (nth .srv w.servers (σ.nat 3)) = true ∧ allTo (σ.nat 3) (srvIn w) = true ∧ allTo k (aheadH w.table (nth .srv w.servers (σ.nat 3)).holds) = true, fun σ k _ => (nth .srv w.servers (σ.nat 3)).holds.length - k⟩)], noAnn, 20, ?_⟩
 cbv
 repeat' first | ((with_reducible refine fun (k : Nat) => ?_); cbv) | ((with_reducible refine fun (q : Nat × Unit) => ?_); obtain ⟨s, _⟩ := q; cbv) | ((with_reducible intro _); cbv) | (with_reducible refine And.intro ?_ ?_)
 all_goals try ((first | (with_reducible refine LoopIn.mk (((0, ()) : Nat × Unit)) ?_ ?_) | (with_reducible refine LoopIn.mk ((0 : Nat)) ?_ ?_) | (with_reducible refine LoopBack.mk ((k + 1 : Nat)) ?_ ?_ ?_) | (with_reducible refine LoopBack.mk (((s + 1, ()) : Nat × Unit)) ?_ ?_ ?_)) )
 all_goals try ((with_reducible show matchSt _ _); cbv; (try simp only [and_true, true_and]))
 all_goals (try simp only [St.nat, St.int, Tr.get, Nat.reduceMod, Nat.reduceDiv, Nat.one_ne_zero, if_false, if_true, ↓reduceIte] at *)
 all_goals try (repeat' with_reducible refine And.intro ?_ ?_)
 all_goals first | (refine retK h ?_; clear h; simp only [fin0]) | (with_reducible refine Ob.mk ?_; clear h) | (clear h)
 all_goals (try simp only [eta0, RT.bytes] at *)
 all_goals grind (splits := 30) [wrap_succ, wrap_id, srvsIn, srvs_bad1, srvs_bad2, srvIn_of, allTo_all, allTo_zero, allTo_succ, aheadH]
theorem okNetOk : SpecOk1 Tryz.prog 39 sNetOk := spec1 tabOk (ss := [(85, sMsgOk)]) ⟨okSMsgOk, trivial⟩ rfl rfl <| by
 intro (bs : Th (List Int)) (p : Th Int) ⟨(w : Th Wld), u⟩ K _ _ ho h
 obtain ⟨w, rfl⟩ := th_ex w
 obtain ⟨ha, h⟩ := h
 have ha := ha.out
 have ht := arb_len ha
 have hi := fun (k : Nat) => @msg_in w.map w.servers.length (nth .msg w.net k)
 refine ⟨annL [(39, 4, ⟨Nat, [], fun σ k => σ.t 3 (vI fun _ => (k : Int)), fun _ k _ => k ≤ w.net.length ∧ w.net.length ≤ 40 ∧ allTo k (msgIn w) = true, fun _ k _ => w.net.length - k⟩)], noAnn, 20, ?_⟩
 cbv
 repeat' first | ((with_reducible refine fun (k : Nat) => ?_); cbv) | ((with_reducible intro _); cbv) | (with_reducible refine And.intro ?_ ?_)
 all_goals try ((first | (with_reducible refine LoopIn.mk ((0 : Nat)) ?_ ?_) | (with_reducible refine LoopBack.mk ((k + 1 : Nat)) ?_ ?_ ?_)) )
 all_goals try ((with_reducible show matchSt _ _); cbv; (try simp only [and_true, true_and]))
 all_goals (try simp only [St.nat, St.int, Tr.get, Nat.reduceMod, Nat.reduceDiv, Nat.one_ne_zero, if_false, if_true, ↓reduceIte] at *)
 all_goals try (repeat' with_reducible refine And.intro ?_ ?_)
 all_goals first | (refine retK h ?_; clear h; simp only [fin0]) | (with_reducible refine Ob.mk ?_; clear h) | (clear h)
 all_goals (try simp only [eta0, RT.bytes] at *)
 all_goals grind (splits := 30) [wrap_succ, wrap_id, msgsIn, net_bad, msgIn, allTo_all, allTo_zero, allTo_succ]
theorem okNotesOk : SpecOk1 Tryz.prog 40 sNotesOk := spec1 tabOk (ss := [(75, sIn)]) ⟨okL1In, trivial⟩ rfl rfl <| by
 intro (bs : Th (List Int)) (p : Th Int) ⟨(l : Th (List Note)), u⟩ K _ _ ho h
 obtain ⟨l, rfl⟩ := th_ex l
 refine ⟨annL [(40, 4, ⟨Nat, [], fun σ k => σ.t 3 (vI fun _ => (k : Int)), fun _ k _ => k ≤ l.length ∧ l.length ≤ 150 ∧ allTo k (noteAt l) = true, fun _ k _ => l.length - k⟩)], noAnn, 20, ?_⟩
 cbv
 repeat' first | ((with_reducible refine fun (k : Nat) => ?_); cbv) | ((with_reducible intro _); cbv) | (with_reducible refine And.intro ?_ ?_)
 all_goals try ((first | (with_reducible refine LoopIn.mk ((0 : Nat)) ?_ ?_) | (with_reducible refine LoopBack.mk ((k + 1 : Nat)) ?_ ?_ ?_)) )
 all_goals try ((with_reducible show matchSt _ _); cbv; (try simp only [and_true, true_and]))
 all_goals (try simp only [St.nat, St.int, Tr.get, Nat.reduceMod, Nat.reduceDiv, Nat.one_ne_zero, if_false, if_true, ↓reduceIte] at *)
 all_goals try (repeat' with_reducible refine And.intro ?_ ?_)
 all_goals first | (refine retK h ?_; clear h; simp only [fin0]) | (with_reducible refine Ob.mk ?_; clear h) | (clear h)
 all_goals (try simp only [eta0, RT.bytes] at *)
 all_goals grind (splits := 30) [wrap_succ, wrap_id, notesIn, notes_bad, noteAt, noteOk, allTo_all, allTo_zero, allTo_succ, inR]
theorem okSWldOk : SpecOk1 Tryz.prog 13 sWldOk := spec1 tabOk (ss := [(34, sPlcOk), (35, sArbOk), (36, sStosOk), (37, sGwyOk), (38, sServersOk), (39, sNetOk), (40, sNotesOk)]) ⟨okSPlcOk, okSArbOk, okSStosOk, okSGwyOk, okServersOk, okNetOk, okNotesOk, trivial⟩ rfl rfl <| by
 intro (bs : Th (List Int)) (p : Th Int) ⟨(w : Th Wld), u⟩ K _ _ ho h
 obtain ⟨w, rfl⟩ := th_ex w
 have ht := @arb_len w.map w.table w.servers.length
 have hs := @stos_len w.map w.stores
 have hs4 := @stos_few w.map w.stores
 have he := wldOk_all w
 refine ⟨annL [(13, 4, ⟨Nat, [], fun σ k => σ.t 3 (vI fun _ => (k : Int)), fun _ k _ => k ≤ w.stores.length ∧ arbOk w.map w.table w.servers.length = true ∧ stosOk w.map w.stores = true ∧ gwyOk w.map w.rows = true ∧ allTo k (aheadS w) = true, fun _ k _ => w.stores.length - k⟩)], noAnn, 20, ?_⟩
 cbv
 repeat' first | ((with_reducible refine fun (k : Nat) => ?_); cbv) | ((with_reducible intro _); cbv) | (with_reducible refine And.intro ?_ ?_)
 all_goals try ((first | (with_reducible refine LoopIn.mk ((0 : Nat)) ?_ ?_) | (with_reducible refine LoopBack.mk ((k + 1 : Nat)) ?_ ?_ ?_)) )
 all_goals try ((with_reducible show matchSt _ _); cbv; (try simp only [and_true, true_and]))
 all_goals (try simp only [St.nat, St.int, Tr.get, Nat.reduceMod, Nat.reduceDiv, Nat.one_ne_zero, if_false, if_true, ↓reduceIte] at *)
 all_goals try (repeat' with_reducible refine And.intro ?_ ?_)
 all_goals first | (refine retK h ?_; clear h; simp only [fin0]) | (with_reducible refine Ob.mk ?_; clear h) | (clear h)
 all_goals (try simp only [eta0, RT.bytes] at *)
 all_goals grind (splits := 30) [wrap_succ, wrap_id, wldOkAll, stos_bad, aheadS, allTo_all, allTo_zero, allTo_succ]
noncomputable def sGstPutS : Sx.Spec := ⟨false, true, [.map, .list .gst, .row .gst], [[some .gst]], fun _ _ ⟨m, l, g, _⟩ => .ret (vW .gst fun _ => gstPutS (m ()) (l ()) (g ()), fun _ => 0)⟩
theorem okSGstPut : SpecOk1 Tryz.prog 165 sGstPutS := spec1 tabOk (ss := [(127, sGstsOkS), (132, sGstOk), (175, sGstLess)]) ⟨okSGstsOk, okSGstOk, okL8Less, trivial⟩ rfl rfl <| by
 intro (bs : Th (List Int)) (p : Th Int) ⟨(m : Th PMap), (l : Th (List Gst)), (g : Th Gst), u⟩ K _ _ ho h
 obtain ⟨m, rfl⟩ := th_ex m; obtain ⟨l, rfl⟩ := th_ex l; obtain ⟨g, rfl⟩ := th_ex g
 have hl := okB (ho.2.1 _ (.head _))
 have hz := gpTo_len l g
 have hlong : 20 < l.length → gstsOkS m l = false := fun h => gsts_long h
 refine ⟨annL [(165, 6, ⟨Nat, [⟨.tmp 7 0, some 23, .gst⟩], fun σ k => ((((σ.fg 23).t 9 (vI fun _ => (k : Int))).t 7 (vO 23 1)).t 8 (vB fun _ => (gpTo l g k).d)).row 23 1 .gst (fun _ => (gpTo l g k).l), fun _ k _ => k ≤ l.length ∧ l.length ≤ 20 ∧ gstsOkS m l = true ∧ gstOk m g = true, fun _ k _ => l.length - k⟩)], noAnn, 20, ?_⟩
 cbv
 repeat' first | ((with_reducible refine fun (k : Nat) => ?_); cbv) | ((with_reducible intro _); cbv) | (with_reducible refine And.intro ?_ ?_)
 all_goals try ((first | (with_reducible refine LoopIn.mk ((0 : Nat)) ?_ ?_) | (with_reducible refine LoopBack.mk ((k + 1 : Nat)) ?_ ?_ ?_)) )
 all_goals try ((with_reducible show matchSt _ _); cbv; (try simp only [and_true, true_and]))
 all_goals try (repeat' with_reducible refine And.intro ?_ ?_)
 all_goals first | (refine retK h ?_; clear h; simp only [fin0]) | (with_reducible refine Ob.mk ?_; clear h) | (clear h)
 all_goals (try simp only [eta0, RT.bytes] at *)
 all_goals grind (splits := 30) [wrap_succ, wrap_id, gpTo_zero, gpTo_succ, gpStep, gpOut, gstPutS]
def gotS (m : PMap) (t : Arb) (cell side n : Int) : List Msg :=
 if arbServer t (plcSide m cell side) = -1 ∨ n = 0 then [] else [⟨6, arbServer t (plcSide m cell side), plcSide m cell side, IntKind.i64.wrap (1 - side), n, zeroOrd, zeroPcl, zeroGst⟩]
noncomputable def sGot : Sx.Spec := ⟨false, true, [.map, .arb, .int .i64, .int .i64, .int .i64], [[some .msg]], fun _ _ ⟨m, t, c, s, n, _⟩ => .ret (vW .msg fun _ => gotS (m ()) (t ()) (c ()) (s ()) (n ()), fun _ => 0)⟩
theorem okL11Got : SpecOk1 Tryz.prog 202 sGot := spec1 tabOk (ss := [(129, sPlcSide), (117, sArbServer)]) ⟨okSPlcSide, okSArbServer, trivial⟩ rfl rfl <| by
 intro (bs : Th (List Int)) (p : Th Int) ⟨(m : Th PMap), (t : Th Arb), (c : Th Int), (s : Th Int), (n : Th Int), u⟩ K _ _ ho h
 obtain ⟨m, rfl⟩ := th_ex m; obtain ⟨t, rfl⟩ := th_ex t; obtain ⟨c, rfl⟩ := th_ex c; obtain ⟨s, rfl⟩ := th_ex s; obtain ⟨n, rfl⟩ := th_ex n
 refine ⟨noAnn, noAnn, 20, ?_⟩
 cbv
 repeat' first | ((with_reducible intro _); cbv) | (with_reducible refine And.intro ?_ ?_)
 all_goals first | (refine retK h ?_; clear h; simp only [fin0]) | (with_reducible refine Ob.mk ?_; clear h) | (clear h)
 all_goals (try simp only [eta0, RT.bytes] at *)
 all_goals grind [gotS, zeroOrd, zeroPcl, zeroGst]
end Go.Proofs.YtjdaiobeiimpfaaGreat
