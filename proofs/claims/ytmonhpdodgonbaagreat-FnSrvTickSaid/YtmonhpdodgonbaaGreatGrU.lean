/-
  The law of what a server says of a cell.
-/
import Derived.Test.YtmonhpdodgonbaaGreatGrA
import Derived.Test.YtmonhpdodgonbaaGreatGrT
import Derived.Test.YtmonhpdodgonbaaGreatGnL
import Derived.Test.YtmonhpdodgonbaaGreatGnR
import Derived.Test.YtmonhpdodgonbaaGreatGnTb
import Derived.Test.YtmonhpdodgonbaaGreatGnV
import Derived.Test.YtmonhpdodgonbaaGreatM4
import Derived.Test.YtmonhpdodgonbaaGreatM3
set_option linter.unusedVariables false
set_option linter.unusedSimpArgs false
namespace Go.Proofs.YtmonhpdodgonbaaGreat
open Go.Sx Go.Proofs Go.Mo
set_option maxRecDepth 100000
set_option maxHeartbeats 8000000
set_option linter.unusedSimpArgs false
set_option linter.unusedVariables false

noncomputable def sLawT : Sx.Spec := ⟨false, true, [.list .byte], [], fun _ _ _ => .ret (vB fun _ => true, fun _ => 0)⟩
theorem tickX_eq (m : PMap) (s : Srv) (t : Arb) (v c : Int) : srvTickX m s t v c = srvTickS m s t v c := by
  unfold srvTickX
  by_cases h : srvOk m s = true ∧ arbOk m t v = true
  · rw [if_pos h, tick_eq h.1 h.2]
  · rw [if_neg h]
    unfold srvTickS
    rw [if_neg fun hh => h ⟨hh.1, hh.2.1⟩]
theorem pcl_beq {a b : Pcl} : (decide (a.n = b.n) && (decide (a.kind = b.kind) && (decide (a.wlk.id = b.wlk.id) && (decide (a.wlk.pos = b.wlk.pos) && (decide (a.wlk.coins = b.wlk.coins) && (decide (a.wlk.seq = b.wlk.seq) && (decide (a.wlk.last = b.wlk.last) && (decide (a.coins = b.coins) && true)))))))) = decide (a = b) := by
  obtain ⟨a1, a2, ⟨b1, b2, b3, b4, b5⟩, a3⟩ := a
  obtain ⟨c1, c2, ⟨d1, d2, d3, d4, d5⟩, c3⟩ := b
  rw [Bool.eq_iff_iff]
  simp [and_assoc]
theorem tickX_fact {m : PMap} {s : Srv} {t : Arb} {v c : Int} {k : Nat} (hk : k < (srvTickX m s t v c).length) :
    msgOk m v (nth .msg (srvTickX m s t v c) k) = true ∧ IntKind.i64.wrap (1 - (nth .msg (srvTickX m s t v c) k).side) = 1 - (nth .msg (srvTickX m s t v c) k).side ∧ 0 ≤ 1 - (nth .msg (srvTickX m s t v c) k).side ∧ 1 - (nth .msg (srvTickX m s t v c) k).side < 2 ∧
    (nth .msg (srvTickX m s t v c) k).cell = plcSide m c (1 - (nth .msg (srvTickX m s t v c) k).side) ∧ 0 ≤ (nth .msg (srvTickX m s t v c) k).cell ∧ (nth .msg (srvTickX m s t v c) k).cell < (t.servers.length : Int) ∧ (nth .msg (srvTickX m s t v c) k).dest = nth .int t.servers (nth .msg (srvTickX m s t v c) k).cell.toNat ∧
    ((nth .msg (srvTickX m s t v c) k).kind = 5 ∨ (nth .msg (srvTickX m s t v c) k).kind = 7) ∧ (srvHold s c).state.outs.length = 2 ∧ (srvHold s c).state.next.length = 2 ∧
    ((nth .msg (srvTickX m s t v c) k).kind = 5 → IntKind.i64.wrap (nth .int (srvHold s c).state.next (1 - (nth .msg (srvTickX m s t v c) k).side).toNat - (nth .pcls (srvHold s c).state.outs (1 - (nth .msg (srvTickX m s t v c) k).side).toNat).length) = nth .int (srvHold s c).state.next (1 - (nth .msg (srvTickX m s t v c) k).side).toNat - (nth .pcls (srvHold s c).state.outs (1 - (nth .msg (srvTickX m s t v c) k).side).toNat).length) ∧
    ((nth .msg (srvTickX m s t v c) k).kind = 5 → IntKind.i64.wrap ((nth .msg (srvTickX m s t v c) k).pcl.n - (nth .int (srvHold s c).state.next (1 - (nth .msg (srvTickX m s t v c) k).side).toNat - (nth .pcls (srvHold s c).state.outs (1 - (nth .msg (srvTickX m s t v c) k).side).toNat).length)) = (nth .msg (srvTickX m s t v c) k).pcl.n - (nth .int (srvHold s c).state.next (1 - (nth .msg (srvTickX m s t v c) k).side).toNat - (nth .pcls (srvHold s c).state.outs (1 - (nth .msg (srvTickX m s t v c) k).side).toNat).length)) ∧
    ((nth .msg (srvTickX m s t v c) k).kind = 5 → 0 ≤ (nth .msg (srvTickX m s t v c) k).pcl.n - (nth .int (srvHold s c).state.next (1 - (nth .msg (srvTickX m s t v c) k).side).toNat - (nth .pcls (srvHold s c).state.outs (1 - (nth .msg (srvTickX m s t v c) k).side).toNat).length) ∧ (nth .msg (srvTickX m s t v c) k).pcl.n - (nth .int (srvHold s c).state.next (1 - (nth .msg (srvTickX m s t v c) k).side).toNat - (nth .pcls (srvHold s c).state.outs (1 - (nth .msg (srvTickX m s t v c) k).side).toNat).length) < (nth .pcls (srvHold s c).state.outs (1 - (nth .msg (srvTickX m s t v c) k).side).toNat).length) ∧
    ((nth .msg (srvTickX m s t v c) k).kind = 5 → nth .pcl (nth .pcls (srvHold s c).state.outs (1 - (nth .msg (srvTickX m s t v c) k).side).toNat) ((nth .msg (srvTickX m s t v c) k).pcl.n - (nth .int (srvHold s c).state.next (1 - (nth .msg (srvTickX m s t v c) k).side).toNat - (nth .pcls (srvHold s c).state.outs (1 - (nth .msg (srvTickX m s t v c) k).side).toNat).length)).toNat = (nth .msg (srvTickX m s t v c) k).pcl) ∧
    ((nth .msg (srvTickX m s t v c) k).kind = 7 → (nth .msg (srvTickX m s t v c) k).gst.count = (srvHold s c).count ∧ (nth .msg (srvTickX m s t v c) k).gst.src = c) := by
  by_cases hc : srvOk m s = true ∧ arbOk m t v = true
  rotate_left
  · rw [srvTickX, if_neg hc] at hk
    exact absurd hk (by simp)
  have e : srvTickX m s t v c = srvTick m s t c := by rw [srvTickX, if_pos hc]
  rw [e] at hk ⊢
  have S := tick_said hc.1 hc.2 _ (nth_mem .msg hk)
  generalize nth .msg (srvTick m s t c) k = z at S ⊢
  obtain ⟨s1, s2, s3, s4, s5, s6, s7, s8, s9, s10, b1, b2, b3, b4, b5⟩ := S
  refine ⟨s1, wrap_id (by omega) (by omega), by omega, by omega, s3, s4, s5, s6, s7, b4, b5, fun h => ?_, fun h => ?_, s8, s9, s10⟩
  · exact wrap_id (by dsimp only [RT.ty] at *; omega) (by dsimp only [RT.ty] at *; omega)
  · have := s8 h
    exact wrap_id (by dsimp only [RT.ty] at *; omega) (by dsimp only [RT.ty] at *; omega)
theorem tickX_len (m : PMap) (s : Srv) (t : Arb) (v c : Int) : (srvTickX m s t v c).length ≤ 16 := by
  unfold srvTickX
  split
  · exact tick_len
  · simp
theorem tickX_none {m : PMap} {s : Srv} {t : Arb} {v c : Int} (h : ¬ (srvHas s c = true ∧ srvOk m s = true ∧ arbOk m t v = true)) : (srvTickX m s t v c).length = 0 := by
  unfold srvTickX
  split
  · unfold srvTick
    rw [if_neg (by grind)]
    rfl
  · rfl
theorem okLawSrvTick : SpecOk1 Tryz.prog 3 sLawT := spec1 tabOk (ss := [(4, sDrawSrvTickE), (5, sSrvTickI), (7, sSrvTick), (6, sIsNet), (8, sSrvHold), (9, sSrvOk), (10, sArbOk), (12, sSrvNew), (11, sSrvOk), (13, sMsgOk), (14, sPlcSide)]) ⟨okDrawSrvTickE, okSrvTickI, okSSrvTick, okIsNet, okSrvHold, okSSrvOk, okSArbOk, okSrvNew, okSrvOk, okMsgOk, okPlcSide, trivial⟩ rfl rfl <| by
  intro (bs : Th (List Int)) (p : Th Int) ⟨(a : Th (List Int)), u⟩ K _ _ ho h
  obtain ⟨a, rfl⟩ := th_ex a
  refine ⟨annL [(3, 11, ⟨Nat, [], fun σ k => (σ.only [2, 3, 4, 5, 6, 7, 8, 9, 10]).t 11 (vI fun _ => (k : Int)), fun _ k _ => k ≤ 16, fun _ k _ => 16 - k⟩)], noAnn, 20, ?_⟩
  cbv
  repeat' first | ((with_reducible refine fun (k : Nat) => ?_); cbv) | ((with_reducible refine fun (q : Nat × Unit) => ?_); obtain ⟨s, _⟩ := q; cbv) | ((with_reducible refine fun (q : Nat × Nat) => ?_); obtain ⟨s, k⟩ := q; cbv) | ((with_reducible intro _); cbv) | ((with_reducible show _ ∧ _); (with_reducible apply And.intro))
  all_goals try ((first | (with_reducible refine LoopIn.mk ((0 : Nat)) ?_ ?_) | (with_reducible refine LoopBack.mk ((k + 1 : Nat)) ?_ ?_ ?_)) )
  all_goals try ((with_reducible show matchSt _ _); cbv; (try simp only [and_true, true_and]))
  all_goals try (with_reducible show _ ∧ _; (repeat' (with_reducible apply And.intro)))
  all_goals first | (refine retK h ?_; clear h; simp only [fin0]) | (with_reducible refine Ob.mk ?_; clear h) | (clear h)
  all_goals (try simp only [eta0, RT.bytes] at *)
  all_goals (try dsimp only [RT.ty] at *)
  all_goals (try simp only [ncastT] at *)
  all_goals first | omega | exact wrap_succ (by omega) | skip
  all_goals (try simp only [pcl_beq] at *)
  all_goals (try have hF := tickX_fact (by assumption))
  all_goals (try dsimp only [RT.ty] at hF)
  all_goals (try clear ho)
  all_goals first | decide | (simp only [hF.2.1] at *; omega) | grind [tickX_len, tickX_none, tickX_eq]
end Go.Proofs.YtmonhpdodgonbaaGreat
