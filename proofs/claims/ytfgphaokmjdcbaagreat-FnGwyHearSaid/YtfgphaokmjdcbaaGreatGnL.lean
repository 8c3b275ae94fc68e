/-
  Contracts: what a server says towards a side, the reference's way.
-/
import Derived.Test.YtfgphaokmjdcbaaGreatGnC
import Derived.Test.YtfgphaokmjdcbaaGreatGnE
import Derived.Test.YtfgphaokmjdcbaaGreatM2
set_option linter.unusedVariables false
set_option linter.unusedSimpArgs false
namespace Go.Proofs.YtfgphaokmjdcbaaGreat
open Go.Sx Go.Proofs Go.Mo
set_option maxRecDepth 100000
set_option maxHeartbeats 8000000
set_option linter.unusedSimpArgs false
set_option linter.unusedVariables false

noncomputable def sTowards : Sx.Spec := ⟨false, true, [.map, .arb, .row .hld, .int .i64], [[some .msg]], fun _ _ ⟨m, t, h, s, _⟩ => .asrt (fun _ => hldOk (m ()) (h ()) = true ∧ 0 ≤ s () ∧ s () ≤ 1) (.ret (vW .msg fun _ => towards (m ()) (t ()) (h ()) (s ()), fun _ => 0))⟩

theorem okL11Towards : SpecOk1 Tryz.prog 237 sTowards := spec1 tabOk (ss := [(48, sPlcSide), (161, sArbServer), (239, sGstOf)]) ⟨okSPlcSide, okSArbServer, okSGstOf, trivial⟩ rfl rfl <| by
  intro (bs : Th (List Int)) (p : Th Int) ⟨(m : Th PMap), (t : Th Arb), (h0 : Th Hld), (s : Th Int), u⟩ K _ _ ho h
  obtain ⟨m, rfl⟩ := th_ex m; obtain ⟨t, rfl⟩ := th_ex t; obtain ⟨h0, rfl⟩ := th_ex h0; obtain ⟨s, rfl⟩ := th_ex s
  obtain ⟨ha, h⟩ := h
  have ha := ha.out
  have hh : hldOk m h0 = true := ha.1
  have hs0 : 0 ≤ s := ha.2.1
  have hs1 : s ≤ 1 := ha.2.2
  clear ha
  have hf := cllOk_facts (hldOk_iff.1 hh).2.2
  have hw := wrap_id (n := 1 - s) (by omega) (by omega)
  have hz := pclsTo_len m t h0 s
  have hy := gstsTo_len m t h0 s
  have e1 := fun k => @pclsTo_end m t h0 s k
  have e2 := fun k => @gstsTo_end m t h0 s k
  have s1 := fun k => @pclsTo_succ m t h0 s k
  have s2 := fun k => @gstsTo_succ m t h0 s k
  refine ⟨annL [(237, 7, ⟨Nat, [⟨.tmp 9 0, some 16, .msg⟩], fun σ k => (((σ.fg 16).t 12 (vI fun _ => (k : Int))).t 9 (vO 16 1)).row 16 1 .msg (fun _ => pclsTo m t h0 s k), fun _ k _ => k ≤ (nth .pcls h0.state.outs s.toNat).length ∧ k ≤ 4, fun _ k _ => 4 - k⟩), (237, 12, ⟨Nat, [⟨.tmp 9 0, some 16, .msg⟩], fun σ k => (((σ.fg 16).t 14 (vI fun _ => (k : Int))).t 9 (vO 16 1)).row 16 1 .msg (fun _ => pclsTo m t h0 s 4 ++ gstsTo m t h0 s k), fun _ k _ => k ≤ (ghosts m h0 s).length ∧ k ≤ 4, fun _ k _ => 4 - k⟩)], noAnn, 20, ?_⟩
  cbv
  repeat' first | ((with_reducible refine fun (k : Nat) => ?_); cbv) | ((with_reducible intro _); cbv) | ((with_reducible show _ ∧ _); (with_reducible apply And.intro))
  all_goals try ((first | (with_reducible refine LoopIn.mk ((0 : Nat)) ?_ ?_) | (with_reducible refine LoopBack.mk ((k + 1 : Nat)) ?_ ?_ ?_)) )
  all_goals try ((with_reducible show matchSt _ _); cbv; (try simp only [and_true, true_and]))
  all_goals try (with_reducible show _ ∧ _; (repeat' (with_reducible apply And.intro)))
  all_goals first | (refine retK h ?_; clear h; simp only [fin0]) | (with_reducible refine Ob.mk ?_; clear h) | (clear h)
  all_goals (try simp only [eta0, RT.bytes] at *)
  all_goals (try simp only [hw, hh, if_true] at *)
  all_goals grind (splits := 30) [wrap_succ, wrap_id, pclsTo_zero, gstsTo_zero, pclMsg, gstMsg, towards, zeroOrd, zeroPcl, zeroGst]
end Go.Proofs.YtfgphaokmjdcbaaGreat

/-
  Contracts: what a server says of a cell, the reference's way.
-/
namespace Go.Proofs.YtfgphaokmjdcbaaGreat
open Go.Sx Go.Proofs Go.Mo
set_option maxRecDepth 100000
set_option maxHeartbeats 8000000
set_option linter.unusedSimpArgs false
set_option linter.unusedVariables false

def srvTickS (m : PMap) (s : Srv) (t : Arb) (servers cell : Int) : List Msg :=
  if srvOk m s = true ∧ arbOk m t servers = true ∧ srvHas s cell = true then towards m t (srvHold s cell) 0 ++ towards m t (srvHold s cell) 1 else []
theorem towards_len (m : PMap) (t : Arb) (h : Hld) (s : Int) : (towards m t h s).length ≤ 8 := by
  unfold towards
  split
  · simp
  · have h1 := pclsTo_len m t h s 4
    have h2 := gstsTo_len m t h s 4
    simp; omega
theorem srv_hold_ok {m : PMap} {s : Srv} {cell : Int} (h : srvOk m s = true) (h2 : srvHas s cell = true) : hldOk m (srvHold s cell) = true := by
  simp only [srvHas, decide_eq_true_eq] at h2
  have := hold_lt s.holds cell
  rw [srvHold, if_pos h2]
  exact srv_at h (by omega)
noncomputable def sSrvTick : Sx.Spec := ⟨false, true, [.map, .row .srv, .arb, .int .i64, .int .i64], [[some .msg]], fun _ _ ⟨m, s, t, v, c, _⟩ => .ret (vW .msg fun _ => srvTickS (m ()) (s ()) (t ()) (v ()) (c ()), fun _ => 0)⟩

theorem okSSrvTick : SpecOk1 Tryz.prog 227 sSrvTick := spec1 tabOk (ss := [(65, sSrvOk), (67, sArbOk), (31, sSrvHold), (237, sTowards)]) ⟨okSSrvOk, okSArbOk, okSSrvHold, okL11Towards, trivial⟩ rfl rfl <| by
  intro (bs : Th (List Int)) (p : Th Int) ⟨(m : Th PMap), (s : Th Srv), (t : Th Arb), (v : Th Int), (c : Th Int), u⟩ K _ _ ho h
  obtain ⟨m, rfl⟩ := th_ex m; obtain ⟨s, rfl⟩ := th_ex s; obtain ⟨t, rfl⟩ := th_ex t; obtain ⟨v, rfl⟩ := th_ex v; obtain ⟨c, rfl⟩ := th_ex c
  have hq := @srv_hold_ok m s c
  have h1 := towards_len m t (srvHold s c) 0
  have h2 := towards_len m t (srvHold s c) 1
  refine ⟨noAnn, noAnn, 20, ?_⟩
  cbv
  repeat' first | ((with_reducible intro _); cbv) | ((with_reducible show _ ∧ _); (with_reducible apply And.intro))
  all_goals first | (refine retK h ?_; clear h; simp only [fin0]) | (with_reducible refine Ob.mk ?_; clear h) | (clear h)
  all_goals (try simp only [eta0, RT.bytes] at *)
  all_goals grind [srvTickS]
end Go.Proofs.YtfgphaokmjdcbaaGreat
