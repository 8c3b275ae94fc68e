/-
  Contracts: a world in new memory, the reference's way.
-/
import Derived.Test.YtfgphaokmjdcbaaGreatGnE
import Derived.Test.YtfgphaokmjdcbaaGreatGnL
import Derived.Test.YtfgphaokmjdcbaaGreatM3
set_option linter.unusedVariables false
set_option linter.unusedSimpArgs false
namespace Go.Proofs.YtfgphaokmjdcbaaGreat
open Go.Sx Go.Proofs Go.Mo
set_option maxRecDepth 100000
set_option maxHeartbeats 8000000
set_option linter.unusedSimpArgs false
set_option linter.unusedVariables false

noncomputable def nWld : List (Option RT) := [none, none, some .srv, some .sto, some .int, some .int, some .row, some .msg, some .note]
noncomputable def sWCopy : Sx.Spec := ⟨false, true, [.row .wld], [nWld], fun _ _ ⟨w, _⟩ => .ret (oWld w, fun _ => 0)⟩

theorem okL13Copy : SpecOk1 Tryz.prog 201 sWCopy := spec1 tabOk (ss := [(69, sCloneSs), (43, sCloneB), (68, sCloneV)]) ⟨okL11Stores, okL12Copy, okL11Copy, trivial⟩ rfl rfl <| by
  intro (bs : Th (List Int)) (p : Th Int) ⟨(w : Th Wld), u⟩ K _ _ ho h
  obtain ⟨w, rfl⟩ := th_ex w
  have hb0 := okB (ho.1 _ (.tail _ (.tail _ (.head _))))
  have hb3 := okB (ho.1 _ (.tail _ (.tail _ (.tail _ (.tail _ (.head _))))))
  have hb4 := okB (ho.1 _ (.tail _ (.tail _ (.tail _ (.tail _ (.tail _ (.head _)))))))
  have hb6 := okB (ho.1 _ (.tail _ (.tail _ (.tail _ (.tail _ (.tail _ (.tail _ (.tail _ (.head _)))))))))
  have hb7 := okB (ho.1 _ (.tail _ (.tail _ (.tail _ (.tail _ (.tail _ (.tail _ (.tail _ (.tail _ (.head _))))))))))
  have hs := fun k => @pre_succ .srv w.servers k
  have hz := pre_len w.servers
  refine ⟨annL [(201, 4, ⟨Nat, [⟨.cell 4 2, some 51, .srv⟩], fun σ k => (((σ.fgs [51, 14, 18, 23, 28]).t 4 (vI fun _ => (k : Int))).cellC 4 2 (.own 51 1)).row 51 1 .srv (fun _ => pre w.servers k), fun _ k _ => k ≤ w.servers.length, fun _ k _ => w.servers.length - k⟩)], noAnn, 20, ?_⟩
  cbv
  repeat' first | ((with_reducible refine fun (k : Nat) => ?_); cbv) | ((with_reducible intro _); cbv) | ((with_reducible show _ ∧ _); (with_reducible apply And.intro))
  all_goals try ((first | (with_reducible refine LoopIn.mk ((0 : Nat)) ?_ ?_) | (with_reducible refine LoopBack.mk ((k + 1 : Nat)) ?_ ?_ ?_)) )
  all_goals try ((with_reducible show matchSt _ _); cbv; (try simp only [and_true, true_and]))
  all_goals try (with_reducible show _ ∧ _; (repeat' (with_reducible apply And.intro)))
  all_goals first | (refine retK h ?_; clear h; simp only [fin0]) | (with_reducible refine Ob.mk ?_; clear h) | (clear h)
  all_goals (try simp only [eta0, RT.bytes] at *)
  all_goals (try grind [pre_zero, pre_all, wrap_succ])

end Go.Proofs.YtfgphaokmjdcbaaGreat

/-
  What a world's step is, path by path; plain.
-/
namespace Go.Proofs.YtfgphaokmjdcbaaGreat
open Go.Sx Go.Proofs Go.Mo
set_option maxHeartbeats 4000000
set_option linter.unusedSimpArgs false
set_option linter.unusedVariables false

theorem ncastT (n : Nat) : (NatCast.natCast n : Int) = (n : Int) := rfl
theorem towards_tick (m : PMap) (t : Arb) (h : Hld) (cell side : Int) (hc : h.state.cell = cell) : towards m t h side = tickSide m t h cell side := by
  subst hc
  rfl
theorem tick_eq {m : PMap} {s : Srv} {t : Arb} {v c : Int} (h1 : srvOk m s = true) (h2 : arbOk m t v = true) : srvTickS m s t v c = srvTick m s t c := by
  simp only [srvTickS, srvTick, h1, h2, true_and]
  split
  · rename_i hh
    have hcc : (srvHold s c).state.cell = c := by
      simp only [srvHas, decide_eq_true_eq] at hh
      rw [srvHold, if_pos hh]
      exact hold_cell hh
    rw [towards_tick m t _ c 0 hcc, towards_tick m t _ c 1 hcc]
  · rfl
theorem send_end {l : List Msg} {n k : Nat} (h1 : k ≤ l.length) (h2 : n + k ≤ 40) (h3 : k < l.length → ¬ n + k < 40) : l.take k = l.take (40 - n) := by
  by_cases hk : k < l.length
  · have := h3 hk
    rw [show k = 40 - n by omega]
  · rw [List.take_of_length_le (by omega), List.take_of_length_le (by omega)]
theorem send_app {a l : List Msg} {k : Nat} (h1 : k ≤ l.length) (h2 : a.length + k ≤ 40) (h3 : k < l.length → ¬ (a.length + (l.take k).length) < 40) : a ++ l.take k = a ++ l.take (40 - a.length) := by
  have h4 : (l.take k).length = k := by simp; omega
  rw [h4] at h3
  rw [send_end h1 h2 h3]
theorem cutTo_end {l : List Msg} {i k : Nat} (h : k ≤ l.length) (h2 : ¬ k < l.length) : cutTo l i k = l.eraseIdx i := by
  rw [show k = l.length by omega]
  exact cutTo_all l i
theorem send_cut {l o : List Msg} {i k j : Nat} (hk : k ≤ l.length) (hk2 : ¬ k < l.length) (h1 : j ≤ o.length) (h2 : (cutTo l i k).length + j ≤ 40) (h3 : j < o.length → ¬ ((cutTo l i k).length + (o.take j).length) < 40) : cutTo l i k ++ o.take j = l.eraseIdx i ++ o.take (40 - (l.eraseIdx i).length) := by
  rw [cutTo_end hk hk2] at *
  exact send_app h1 h2 h3
theorem take_len' {l : List Msg} {k : Nat} (h : k ≤ l.length) : (l.take k).length = k := by simp; omega
theorem take_more {l : List Msg} {k : Nat} (h : k < l.length) : l.take (k + 1) = l.take k ++ [nth .msg l k] := pre_succ .msg h
theorem wld_facts {w : Wld} (h : wldOk w = true) : arbOk w.map w.table w.servers.length = true ∧ stosOk w.map w.stores = true ∧ gwyOk w.map w.rows = true ∧ w.net.length ≤ 40 ∧ w.notes.length ≤ 150 ∧
    (∀ i, i < w.net.length → msgOk w.map w.servers.length (nth .msg w.net i) = true ∧ -1 ≤ (nth .msg w.net i).dest ∧ (nth .msg w.net i).dest < w.servers.length) ∧ (∀ i, i < w.servers.length → srvOk w.map (nth .srv w.servers i) = true) ∧ 1 ≤ w.servers.length ∧ w.servers.length ≤ 3 := by
  obtain ⟨h1, h2, h3, h4, h5, h6, h7, h8, h9⟩ := wldOk_iff.1 h
  have ha := arb_len h1
  refine ⟨h1, h2, h3, h4, h5, fun i hi => ?_, fun i hi => (h7 _ (nth_mem .srv hi)).1, by omega, by omega⟩
  have hm := (h8 _ (nth_mem .msg hi)).1
  refine ⟨hm, ?_⟩
  simp only [msgOk, msgKind, decide_eq_true_eq] at hm
  omega
theorem grant_len {m : PMap} {t : Arb} {v cell server : Int} (ht : arbOk m t v = true) (hg : (arbGrantX m t v cell server).ok = true) : 0 ≤ cell ∧ cell < (arbGrantX m t v cell server).t.ages.length := by
  have := arb_len ht
  simp only [arbGrantX, if_pos ht] at hg ⊢
  unfold arbGrant at hg ⊢
  split at hg
  · rename_i hc
    rw [if_pos hc]
    simp only [List.length_set]
    omega
  · cases hg
theorem in_len (p : Int) (n : Nat) (hn : (n : Int) ≤ 1000000) : inR p 0 (IntKind.i64.wrap ((n : Int) - 1)) = decide (0 ≤ p ∧ p < (n : Int)) := by
  rw [wrap_id (by omega) (by omega)]
  simp only [inR]
  congr 1
  simp only [eq_iff_iff]
  omega

section
variable {w : Wld} {e : Evt} (h : wldOk w = true)
include h
theorem step_1 (hk : e.kind = 1) : wldStep w e = if (arbGrantX w.map w.table w.servers.length e.pos e.dest).ok = true then ⟨w.map, w.servers, w.stores, (arbGrantX w.map w.table w.servers.length e.pos e.dest).t, w.rows, w.net ++ ([⟨1, e.dest, e.pos, 0, nth .int (arbGrantX w.map w.table w.servers.length e.pos e.dest).t.ages e.pos.toNat, ⟨0, 0, 0, 0, 0⟩, ⟨0, 0, ⟨0, 0, 0, 0, 0⟩, 0⟩, ⟨0, 0, ⟨0, 0, 0, 0, 0⟩⟩⟩] : List Msg).take (40 - w.net.length), w.notes⟩ else w := by
  have hF := wld_facts h
  simp only [wldStep, wStep, h, hk, if_true, arbGrantX, hF.1, wSend, zeroOrd, zeroPcl, zeroGst]
theorem step_2 (hk : e.kind = 2) : wldStep w e = ⟨w.map, w.servers, w.stores, w.table, (gwyAskX w.map w.rows e.pos e.what e.dest e.n).b, w.net, w.notes⟩ := by
  have hF := wld_facts h
  simp [wldStep, wStep, h, hk, gwyAskX, hF.2.2.1]
theorem step_3 (hk : e.kind = 3) : wldStep w e = if (gwySayX w.map w.rows w.table w.servers.length e.pos).ok = true then ⟨w.map, w.servers, w.stores, w.table, w.rows, w.net ++ [(gwySayX w.map w.rows w.table w.servers.length e.pos).x].take (40 - w.net.length), w.notes⟩ else w := by
  have hF := wld_facts h
  simp [wldStep, wStep, h, hk, gwySayX, hF.1, hF.2.2.1, wSend]
theorem step_4n (hk : e.kind = 4) (hn : ¬ (0 ≤ e.pos ∧ e.pos < (w.net.length : Int))) : wldStep w e = w := by
  simp only [wldStep, wStep, h, hk, if_true]
  rw [if_neg (by decide), if_neg (by decide), if_neg (by decide), if_pos (by decide), if_neg hn]
theorem step_4g (hk : e.kind = 4) (hn : 0 ≤ e.pos ∧ e.pos < (w.net.length : Int)) (hd : (nth .msg w.net e.pos.toNat).dest = -1) : wldStep w e = ⟨w.map, w.servers, w.stores, w.table, (gwyHearX w.map w.rows w.servers.length (nth .msg w.net e.pos.toNat)).b, w.net.eraseIdx e.pos.toNat,
    if (gwyHearX w.map w.rows w.servers.length (nth .msg w.net e.pos.toNat)).ok = true ∧ w.notes.length < 150 then w.notes ++ [⟨(nth .msg w.net e.pos.toNat).ord.who, (nth .msg w.net e.pos.toNat).ord.seq, (nth .msg w.net e.pos.toNat).n⟩] else w.notes⟩ := by
  have hF := wld_facts h
  have hm := (hF.2.2.2.2.2.1 e.pos.toNat (by omega)).1
  have hx : gwyHearX w.map w.rows w.servers.length (nth .msg w.net e.pos.toNat) = gwyHear w.map w.rows (nth .msg w.net e.pos.toNat) := by rw [gwyHearX, if_pos ⟨hF.2.2.1, hm⟩]
  rw [hx]
  simp only [wldStep, wStep, h, hk, if_true]
  rw [if_neg (by decide), if_neg (by decide), if_neg (by decide), if_pos (by decide), if_pos hn]
  simp only [wBring, hd, if_true, wGate, wCut]
  rfl
theorem step_4h (hk : e.kind = 4) (hn : 0 ≤ e.pos ∧ e.pos < (w.net.length : Int)) (hd : ¬ (nth .msg w.net e.pos.toNat).dest = -1) : wldStep w e = ⟨w.map, w.servers.set (nth .msg w.net e.pos.toNat).dest.toNat (srvHearX w.map (nth .srv w.servers (nth .msg w.net e.pos.toNat).dest.toNat) w.stores w.table w.servers.length (nth .msg w.net e.pos.toNat)).srv,
    (srvHearX w.map (nth .srv w.servers (nth .msg w.net e.pos.toNat).dest.toNat) w.stores w.table w.servers.length (nth .msg w.net e.pos.toNat)).stores, w.table, w.rows, w.net.eraseIdx e.pos.toNat ++ (srvHearX w.map (nth .srv w.servers (nth .msg w.net e.pos.toNat).dest.toNat) w.stores w.table w.servers.length (nth .msg w.net e.pos.toNat)).out.take (40 - (w.net.eraseIdx e.pos.toNat).length), w.notes⟩ := by
  have hF := wld_facts h
  have hm := hF.2.2.2.2.2.1 e.pos.toNat (by omega)
  have hs := hF.2.2.2.2.2.2.1 (nth .msg w.net e.pos.toNat).dest.toNat (by omega)
  have hx : srvHearX w.map (nth .srv w.servers (nth .msg w.net e.pos.toNat).dest.toNat) w.stores w.table w.servers.length (nth .msg w.net e.pos.toNat) = srvHears w.map (nth .srv w.servers (nth .msg w.net e.pos.toNat).dest.toNat) w.stores w.table (nth .msg w.net e.pos.toNat) := by rw [srvHearX, if_pos ⟨hs, hF.2.1, hF.1, hm.1⟩]
  rw [hx]
  simp only [wldStep, wStep, h, hk, if_true]
  rw [if_neg (by decide), if_neg (by decide), if_neg (by decide), if_pos (by decide), if_pos hn]
  simp only [wBring, hd, if_false, wHear, wCut, wSend]
theorem step_5 (hk : e.kind = 5) : wldStep w e = if 0 ≤ e.pos ∧ e.pos < (w.net.length : Int) then ⟨w.map, w.servers, w.stores, w.table, w.rows, w.net.eraseIdx e.pos.toNat, w.notes⟩ else w := by
  simp only [wldStep, wStep, h, hk, if_true]
  rw [if_neg (by decide), if_neg (by decide), if_neg (by decide), if_pos (by decide)]
  by_cases hp : 0 ≤ e.pos ∧ e.pos < (w.net.length : Int)
  · rw [if_pos hp, if_pos hp, if_neg (by decide)]
    rfl
  · rw [if_neg hp, if_neg hp]
theorem step_6 (hk : e.kind = 6) : wldStep w e = if 0 ≤ e.pos ∧ e.pos < (w.net.length : Int) then ⟨w.map, w.servers, w.stores, w.table, w.rows, w.net ++ [nth .msg w.net e.pos.toNat].take (40 - w.net.length), w.notes⟩ else w := by
  simp only [wldStep, wStep, h, hk, if_true]
  rw [if_neg (by decide), if_neg (by decide), if_neg (by decide), if_pos (by decide)]
  by_cases hp : 0 ≤ e.pos ∧ e.pos < (w.net.length : Int)
  · rw [if_pos hp, if_pos hp, if_neg (by decide), if_neg (by decide)]
    rfl
  · rw [if_neg hp, if_neg hp]
theorem step_7 (hk : e.kind = 7) : wldStep w e = if 0 ≤ e.pos ∧ e.pos < (w.servers.length : Int) then ⟨w.map, w.servers, w.stores, w.table, w.rows, w.net ++ (srvTickS w.map (nth .srv w.servers e.pos.toNat) w.table w.servers.length e.dest).take (40 - w.net.length), w.notes⟩ else w := by
  have hF := wld_facts h
  simp only [wldStep, wStep, h, hk, if_true]
  rw [if_neg (by decide), if_neg (by decide), if_neg (by decide), if_neg (by decide), if_pos (by decide)]
  by_cases hp : 0 ≤ e.pos ∧ e.pos < (w.servers.length : Int)
  · rw [if_pos hp, if_pos hp, tick_eq (hF.2.2.2.2.2.2.1 e.pos.toNat (by omega)) hF.1]
    rfl
  · rw [if_neg hp, if_neg hp]
theorem step_8 (hk : e.kind = 8) : wldStep w e = if 0 ≤ e.pos ∧ e.pos < (w.servers.length : Int) then ⟨w.map, w.servers.set e.pos.toNat ⟨false, [], []⟩, w.stores, w.table, w.rows, w.net, w.notes⟩ else w := by
  simp only [wldStep, wStep, h, hk, if_true]
  rw [if_neg (by decide), if_neg (by decide), if_neg (by decide), if_neg (by decide), if_pos (by decide)]
  by_cases hp : 0 ≤ e.pos ∧ e.pos < (w.servers.length : Int)
  · rw [if_pos hp, if_pos hp, if_neg (by decide)]
  · rw [if_neg hp, if_neg hp]
theorem step_9 (hk : e.kind = 9) : wldStep w e = if 0 ≤ e.pos ∧ e.pos < (w.servers.length : Int) ∧ (nth .srv w.servers e.pos.toNat).up = false then ⟨w.map, w.servers.set e.pos.toNat ⟨true, [], []⟩, w.stores, w.table, w.rows, w.net, w.notes⟩ else w := by
  simp only [wldStep, wStep, h, hk, if_true]
  rw [if_neg (by decide), if_neg (by decide), if_neg (by decide), if_neg (by decide), if_pos (by decide)]
  by_cases hp : 0 ≤ e.pos ∧ e.pos < (w.servers.length : Int)
  · rw [if_pos hp, if_neg (by decide), if_neg (by decide)]
    by_cases hu : (nth .srv w.servers e.pos.toNat).up = false
    · rw [if_pos hu, if_pos ⟨hp.1, hp.2, hu⟩]
    · rw [if_neg hu, if_neg (fun hq => hu hq.2.2)]
  · rw [if_neg hp, if_neg (fun hq => hp ⟨hq.1, hq.2.1⟩)]
theorem step_no (h1 : ¬ e.kind = 1) (h2 : ¬ e.kind = 2) (h3 : ¬ e.kind = 3) (h4 : ¬ e.kind = 4) (h5 : ¬ e.kind = 5) (h6 : ¬ e.kind = 6) (h7 : ¬ e.kind = 7) (h8 : ¬ e.kind = 8) (h9 : ¬ e.kind = 9) : wldStep w e = w := by
  simp only [wldStep, wStep, h, if_true]
  rw [if_neg h1, if_neg h2, if_neg h3, if_neg (by omega), if_neg (by omega)]
end
theorem step_bad {w : Wld} {e : Evt} (h : wldOk w = false) : wldStep w e = zeroWld := by simp [wldStep, h]
end Go.Proofs.YtfgphaokmjdcbaaGreat
