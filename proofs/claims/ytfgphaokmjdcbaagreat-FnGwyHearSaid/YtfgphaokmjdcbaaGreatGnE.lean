/-
  Contracts: servers, lists of stores.
-/
import Derived.Test.YtfgphaokmjdcbaaGreatGnB
import Derived.Test.YtfgphaokmjdcbaaGreatFoD
import Derived.Test.YtfgphaokmjdcbaaGreatFoHs
import Derived.Test.YtfgphaokmjdcbaaGreatM2
set_option linter.unusedVariables false
set_option linter.unusedSimpArgs false
namespace Go.Proofs.YtfgphaokmjdcbaaGreat
open Go.Sx Go.Proofs Go.Mo
set_option maxRecDepth 100000
set_option maxHeartbeats 8000000
set_option linter.unusedSimpArgs false
set_option linter.unusedVariables false

noncomputable def sSrvOk : Sx.Spec := ⟨false, true, [.map, .row .srv], [], fun _ _ ⟨m, s, _⟩ => .ret (vB fun _ => srvOk (m ()) (s ()), fun _ => 0)⟩
noncomputable def sSrvHold : Sx.Spec := ⟨false, true, [.row .srv, .int .i64], [nHld, [none]], fun _ _ ⟨s, c, _⟩ => .ret (.tup [oHld fun _ => srvHold (s ()) (c ()), vB fun _ => srvHas (s ()) (c ())], fun _ => 0)⟩
noncomputable def sCloneV : Sx.Spec := ⟨false, true, [.row .srv], [[none, some .hld, some .gst]], fun _ _ ⟨s, _⟩ => .ret (oSrv s, fun _ => 0)⟩
noncomputable def sCloneSs : Sx.Spec := ⟨false, true, [.list .sto], [[some .sto]], fun _ _ ⟨l, _⟩ => .ret (vW .sto l, fun _ => 0)⟩
noncomputable def sStosOk : Sx.Spec := ⟨false, true, [.map, .list .sto], [], fun _ _ ⟨m, l, _⟩ => .ret (vB fun _ => stosOk (m ()) (l ()), fun _ => 0)⟩
noncomputable def sGstOf : Sx.Spec := ⟨false, true, [.map, .row .hld, .int .i64], [[some .gst]], fun _ _ ⟨m, h, s, _⟩ => .ret (vW .gst fun _ => if hldOk (m ()) (h ()) = true then ghosts (m ()) (h ()) (s ()) else [], fun _ => 0)⟩

theorem okSSrvOk : SpecOk1 Tryz.prog 65 sSrvOk := spec1 tabOk (ss := [(45, sPlcOk), (114, sGstsOkS), (115, sHldOk)]) ⟨okSPlcOk, okSGstsOk, okSHldOk, trivial⟩ rfl rfl <| by
  intro (bs : Th (List Int)) (p : Th Int) ⟨(m : Th PMap), (s : Th Srv), u⟩ K _ _ ho h
  obtain ⟨m, rfl⟩ := th_ex m; obtain ⟨s, rfl⟩ := th_ex s
  have hl := okL (ho.2.1 _ (.tail _ (.head _)))
  have hl2 := okL (ho.2.1 _ (.tail _ (.tail _ (.head _))))
  have hb : plcOk m = false ∨ gstsOkS m s.ghosts = false ∨ srvUp s = false → srvOk m s = false := by
    intro hh
    rcases hh with hh | hh | hh <;> simp [srvOk, gstsOk, hh]
  have hb2 : plcOk m = true → gstsOkS m s.ghosts = true → gstsOk m s.ghosts = true := fun h1 h2 => by simp [gstsOk, h1, h2]
  refine ⟨annL [(65, 4, ⟨Nat, [], fun σ k => σ.t 5 (vI fun _ => (k : Int)), fun _ k _ => k ≤ s.holds.length ∧ gstsOk m s.ghosts = true ∧ srvUp s = true ∧ allTo k (hldAt m s.holds) = true, fun _ k _ => s.holds.length - k⟩)], noAnn, 20, ?_⟩
  cbv
  repeat' first | ((with_reducible refine fun (k : Nat) => ?_); cbv) | ((with_reducible intro _); cbv) | ((with_reducible show _ ∧ _); (with_reducible apply And.intro))
  all_goals try ((first | (with_reducible refine LoopIn.mk ((0 : Nat)) ?_ ?_) | (with_reducible refine LoopBack.mk ((k + 1 : Nat)) ?_ ?_ ?_)) )
  all_goals try ((with_reducible show matchSt _ _); cbv; (try simp only [and_true, true_and]))
  all_goals try (with_reducible show _ ∧ _; (repeat' (with_reducible apply And.intro)))
  all_goals first | (refine retK h ?_; clear h; simp only [fin0]) | (with_reducible refine Ob.mk ?_; clear h) | (clear h)
  all_goals (try simp only [eta0, RT.bytes] at *)
  all_goals grind [wrap_succ, wrap_id, wrap_pred, srv_bad1, srv_bad2, srv_all, srvUp, hldAt, allTo_zero, allTo_succ]
theorem okSSrvHold : SpecOk1 Tryz.prog 31 sSrvHold := spec1 tabOk (ss := [(89, sCloneH)]) ⟨okL7Copy, trivial⟩ rfl rfl <| by
  intro (bs : Th (List Int)) (p : Th Int) ⟨(s : Th Srv), (c : Th Int), u⟩ K _ _ ho h
  obtain ⟨s, rfl⟩ := th_ex s; obtain ⟨c, rfl⟩ := th_ex c
  have hl := okL (ho.1 _ (.tail _ (.head _)))
  refine ⟨annL [(31, 2, ⟨Nat, [], fun σ k => σ.t 6 (vI fun _ => (k : Int)), fun _ k _ => k ≤ s.holds.length ∧ allTo k (ncell s.holds c) = true, fun _ k _ => s.holds.length - k⟩)], noAnn, 20, ?_⟩
  cbv
  repeat' first | ((with_reducible refine fun (k : Nat) => ?_); cbv) | ((with_reducible intro _); cbv) | ((with_reducible show _ ∧ _); (with_reducible apply And.intro))
  all_goals try ((first | (with_reducible refine LoopIn.mk ((0 : Nat)) ?_ ?_) | (with_reducible refine LoopBack.mk ((k + 1 : Nat)) ?_ ?_ ?_)) )
  all_goals try ((with_reducible show matchSt _ _); cbv; (try simp only [and_true, true_and]))
  all_goals try (with_reducible show _ ∧ _; (repeat' (with_reducible apply And.intro)))
  all_goals first | (refine retK h ?_; clear h; simp only [fin0]) | (with_reducible refine Ob.mk ?_; clear h) | (clear h)
  all_goals (try simp only [eta0, RT.bytes] at *)
  all_goals grind (splits := 40) [allTo_zero, allTo_succ, ncell, isCell, hold_at, hold_none, wrap_succ, srvHold, srvHas, zeroH, zeroC]
theorem okL11Copy : SpecOk1 Tryz.prog 68 sCloneV := spec1 tabOk (ss := [(89, sCloneH)]) ⟨okL7Copy, trivial⟩ rfl rfl <| by
  intro (bs : Th (List Int)) (p : Th Int) ⟨(s : Th Srv), u⟩ K _ _ ho h
  obtain ⟨s, rfl⟩ := th_ex s
  have hl := okB (ho.1 _ (.tail _ (.head _)))
  have hl2 := okB (ho.1 _ (.tail _ (.tail _ (.head _))))
  have hz := pre_len s.holds
  have hs := fun k => @pre_succ .hld s.holds k
  refine ⟨annL [(68, 3, ⟨Nat, [⟨.cell 4 1, some 29, .hld⟩], fun σ k => (((σ.fg 8).t 4 (vI fun _ => (k : Int))).cellC 4 1 (.own 29 1)).row 29 1 .hld (fun _ => pre s.holds k), fun _ k _ => k ≤ s.holds.length, fun _ k _ => s.holds.length - k⟩)], noAnn, 20, ?_⟩
  cbv
  repeat' first | ((with_reducible refine fun (k : Nat) => ?_); cbv) | ((with_reducible intro _); cbv) | ((with_reducible show _ ∧ _); (with_reducible apply And.intro))
  all_goals try ((first | (with_reducible refine LoopIn.mk ((0 : Nat)) ?_ ?_) | (with_reducible refine LoopBack.mk ((k + 1 : Nat)) ?_ ?_ ?_)) )
  all_goals try ((with_reducible show matchSt _ _); cbv; (try simp only [and_true, true_and]))
  all_goals try (with_reducible show _ ∧ _; (repeat' (with_reducible apply And.intro)))
  all_goals first | (refine retK h ?_; clear h; simp only [fin0]) | (with_reducible refine Ob.mk ?_; clear h) | (clear h)
  all_goals (try simp only [eta0, RT.bytes] at *)
  all_goals grind [pre_zero, pre_all, wrap_succ]
theorem okL11Stores : SpecOk1 Tryz.prog 69 sCloneSs := spec1 tabOk (ss := [(116, sCloneS)]) ⟨okL6Copy, trivial⟩ rfl rfl <| by
  intro (bs : Th (List Int)) (p : Th Int) ⟨(l : Th (List Sto)), u⟩ K _ _ ho h
  obtain ⟨l, rfl⟩ := th_ex l
  have hl := okB (ho.1 _ (.head _))
  have hz := pre_len l
  have hs := fun k => @pre_succ .sto l k
  refine ⟨annL [(69, 3, ⟨Nat, [⟨.tmp 3 0, some 6, .sto⟩], fun σ k => (((σ.fg 6).t 4 (vI fun _ => (k : Int))).t 3 (vO 6 1)).row 6 1 .sto (fun _ => pre l k), fun _ k _ => k ≤ l.length, fun _ k _ => l.length - k⟩)], noAnn, 20, ?_⟩
  cbv
  repeat' first | ((with_reducible refine fun (k : Nat) => ?_); cbv) | ((with_reducible intro _); cbv) | ((with_reducible show _ ∧ _); (with_reducible apply And.intro))
  all_goals try ((first | (with_reducible refine LoopIn.mk ((0 : Nat)) ?_ ?_) | (with_reducible refine LoopBack.mk ((k + 1 : Nat)) ?_ ?_ ?_)) )
  all_goals try ((with_reducible show matchSt _ _); cbv; (try simp only [and_true, true_and]))
  all_goals try (with_reducible show _ ∧ _; (repeat' (with_reducible apply And.intro)))
  all_goals first | (refine retK h ?_; clear h; simp only [fin0]) | (with_reducible refine Ob.mk ?_; clear h) | (clear h)
  all_goals (try simp only [eta0, RT.bytes] at *)
  all_goals grind [pre_zero, pre_all, wrap_succ]
theorem okSStosOk : SpecOk1 Tryz.prog 66 sStosOk := spec1 tabOk (ss := [(45, sPlcOk), (93, sStoOk)]) ⟨okSPlcOk, okSStoOk, trivial⟩ rfl rfl <| by
  intro (bs : Th (List Int)) (p : Th Int) ⟨(m : Th PMap), (l : Th (List Sto)), u⟩ K _ _ ho h
  obtain ⟨m, rfl⟩ := th_ex m; obtain ⟨l, rfl⟩ := th_ex l
  have hl := okL (ho.2.1 _ (.head _))
  have hb : plcOk m = false ∨ ¬ (l.length : Int) = m.cells → stosOk m l = false := by
    intro hh
    rcases hh with hh | hh <;> simp [stosOk, hh]
  refine ⟨annL [(66, 4, ⟨Nat, [], fun σ k => σ.t 5 (vI fun _ => (k : Int)), fun _ k _ => k ≤ l.length ∧ plcOk m = true ∧ (l.length : Int) = m.cells ∧ allTo k (stoAt m l) = true, fun _ k _ => l.length - k⟩)], noAnn, 20, ?_⟩
  cbv
  repeat' first | ((with_reducible refine fun (k : Nat) => ?_); cbv) | ((with_reducible intro _); cbv) | ((with_reducible show _ ∧ _); (with_reducible apply And.intro))
  all_goals try ((first | (with_reducible refine LoopIn.mk ((0 : Nat)) ?_ ?_) | (with_reducible refine LoopBack.mk ((k + 1 : Nat)) ?_ ?_ ?_)) )
  all_goals try ((with_reducible show matchSt _ _); cbv; (try simp only [and_true, true_and]))
  all_goals try (with_reducible show _ ∧ _; (repeat' (with_reducible apply And.intro)))
  all_goals first | (refine retK h ?_; clear h; simp only [fin0]) | (with_reducible refine Ob.mk ?_; clear h) | (clear h)
  all_goals (try simp only [eta0, RT.bytes] at *)
  all_goals grind [wrap_succ, stos_bad1, stos_bad2, stos_all, stoAt, allTo_zero, allTo_succ]
theorem okSGstOf : SpecOk1 Tryz.prog 239 sGstOf := spec1 tabOk (ss := [(115, sHldOk), (104, sPlcEdge)]) ⟨okSHldOk, okSPlcEdge, trivial⟩ rfl rfl <| by
  intro (bs : Th (List Int)) (p : Th Int) ⟨(m : Th PMap), (h0 : Th Hld), (s : Th Int), u⟩ K _ _ ho h
  obtain ⟨m, rfl⟩ := th_ex m; obtain ⟨h0, rfl⟩ := th_ex h0; obtain ⟨s, rfl⟩ := th_ex s
  have hn : hldOk m h0 = true → h0.state.wlks.length ≤ 9 := fun h => cllOk_len (hldOk_iff.1 h).2.2
  have hl := okB (ho.2.1 _ (.tail _ (.tail _ (.tail _ (.head _)))))
  have hz := ghTo_len m h0 s
  refine ⟨annL [(239, 5, ⟨Nat, [⟨.tmp 7 0, some 11, .gst⟩], fun σ k => (((σ.fg 11).t 8 (vI fun _ => (k : Int))).t 7 (vO 11 1)).row 11 1 .gst (fun _ => ghTo m h0 s k), fun _ k _ => k ≤ h0.state.wlks.length ∧ hldOk m h0 = true, fun _ k _ => h0.state.wlks.length - k⟩)], noAnn, 20, ?_⟩
  cbv
  repeat' first | ((with_reducible refine fun (k : Nat) => ?_); cbv) | ((with_reducible intro _); cbv) | ((with_reducible show _ ∧ _); (with_reducible apply And.intro))
  all_goals try ((first | (with_reducible refine LoopIn.mk ((0 : Nat)) ?_ ?_) | (with_reducible refine LoopBack.mk ((k + 1 : Nat)) ?_ ?_ ?_)) )
  all_goals try ((with_reducible show matchSt _ _); cbv; (try simp only [and_true, true_and]))
  all_goals try (with_reducible show _ ∧ _; (repeat' (with_reducible apply And.intro)))
  all_goals first | (refine retK h ?_; clear h; simp only [fin0]) | (with_reducible refine Ob.mk ?_; clear h) | (clear h)
  all_goals (try simp only [eta0, RT.bytes] at *)
  all_goals grind [ghTo_zero, ghTo_yes, ghTo_no, ghosts, wrap_succ]
end Go.Proofs.YtfgphaokmjdcbaaGreat
