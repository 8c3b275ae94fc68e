/-
  Contracts: servers, lists of stores.
-/
import Derived.Test.YtjdaiobeiimpfaaGreatGnF
import Derived.Test.YtjdaiobeiimpfaaGreatFoHs
import Derived.Test.YtjdaiobeiimpfaaGreatM2
import Derived.Test.YtjdaiobeiimpfaaGreatGnC
import Derived.Test.YtjdaiobeiimpfaaGreatM7
import Derived.Test.YtjdaiobeiimpfaaGreatM3
set_option linter.unusedVariables false
set_option linter.unusedSimpArgs false
set_option maxRecDepth 100000
set_option maxHeartbeats 8000000
namespace Go.Proofs.YtjdaiobeiimpfaaGreat
open Go.Sx Go.Proofs Go.Mo
noncomputable def sSrvOk : Sx.Spec := ⟨false, true, [.map, .row .srv], [], fun _ _ ⟨m, s, _⟩ => .ret (vB fun _ => srvOk (m ()) (s ()), fun _ => 0)⟩
noncomputable def sHoldPlace : Sx.Spec := ⟨false, true, [.row .srv, .int .i64], [], fun _ _ ⟨s, c, _⟩ => .ret (vI fun _ => holdPlace (s ()).holds (c ()), fun _ => 0)⟩
noncomputable def sSrvHold : Sx.Spec := ⟨false, true, [.row .srv, .int .i64], [nHld, [none]], fun _ _ ⟨s, c, _⟩ => .ret (.tup [oHld fun _ => srvHold (s ()) (c ()), vB fun _ => srvHas (s ()) (c ())], fun _ => 0)⟩
noncomputable def sCloneV : Sx.Spec := ⟨false, true, [.row .srv], [[none, some .hld, some .gst]], fun _ _ ⟨s, _⟩ => .ret (oSrv s, fun _ => 0)⟩
noncomputable def sCloneG : Sx.Spec := ⟨false, true, [.list .gst], [[some .gst]], fun _ _ ⟨l, _⟩ => .ret (vW .gst l, fun _ => 0)⟩
noncomputable def sCloneSs : Sx.Spec := ⟨false, true, [.list .sto], [[some .sto]], fun _ _ ⟨l, _⟩ => .ret (vW .sto l, fun _ => 0)⟩
noncomputable def sStosOk : Sx.Spec := ⟨false, true, [.map, .list .sto], [], fun _ _ ⟨m, l, _⟩ => .ret (vB fun _ => stosOk (m ()) (l ()), fun _ => 0)⟩
noncomputable def sGhosts : Sx.Spec := ⟨false, true, [.row .hld, .map, .int .i64], [[some .gst]], fun _ _ ⟨h, m, s, _⟩ => .asrt (fun _ => (h ()).state.wlks.length ≤ 9) (.ret (vW .gst fun _ => ghosts (m ()) (h ()) (s ()), fun _ => 0))⟩
noncomputable def sGstOf : Sx.Spec := ⟨false, true, [.map, .row .hld, .int .i64], [[some .gst]], fun _ _ ⟨m, h, s, _⟩ => .ret (vW .gst fun _ => if hldOk (m ()) (h ()) = true then ghosts (m ()) (h ()) (s ()) else [], fun _ => 0)⟩
theorem okSrvOk : SpecOk1 Tryz.prog 46 sSrvOk := spec1 tabOk (ss := [(90, sHldOk), (91, sGstsOk)]) ⟨okHldOk, okGstsOk, trivial⟩ rfl rfl <| by
 intro (bs : Th (List Int)) (p : Th Int) ⟨(m : Th PMap), (s : Th Srv), u⟩ K _ _ ho h
 obtain ⟨m, rfl⟩ := th_ex m; obtain ⟨s, rfl⟩ := th_ex s
 have hl := okL (ho.2.1 _ (.tail _ (.head _)))
 have hl2 := okL (ho.2.1 _ (.tail _ (.tail _ (.head _))))
 refine ⟨annL [(46, 2, ⟨Nat, [], fun σ k => σ.t 10 (vI fun _ => (k : Int)), fun _ k _ => k ≤ s.holds.length ∧ allTo k (hldAt m s.holds) = true, fun _ k _ => s.holds.length - k⟩)], noAnn, 20, ?_⟩
 cbv
 repeat' first | ((with_reducible refine fun (k : Nat) => ?_); cbv) | ((with_reducible intro _); cbv) | (with_reducible refine And.intro ?_ ?_)
 all_goals try ((first | (with_reducible refine LoopIn.mk ((0 : Nat)) ?_ ?_) | (with_reducible refine LoopBack.mk ((k + 1 : Nat)) ?_ ?_ ?_)) )
 all_goals try ((with_reducible show matchSt _ _); cbv; (try simp only [and_true, true_and]))
 all_goals try (repeat' with_reducible refine And.intro ?_ ?_)
 all_goals first | (refine retK h ?_; clear h; simp only [fin0]) | (with_reducible refine Ob.mk ?_; clear h) | (clear h)
 all_goals (try simp only [eta0, RT.bytes] at *)
 all_goals grind [wrap_succ, wrap_id, wrap_pred, srv_bad1, srv_bad2, srv_all, srvUp, hldAt, allTo_zero, allTo_succ]
theorem okSSrvOk : SpecOk1 Tryz.prog 84 sSrvOk := spec1 tabOk (ss := [(34, sPlcOk), (127, sGstsOkS), (128, sHldOk)]) ⟨okSPlcOk, okSGstsOk, okSHldOk, trivial⟩ rfl rfl <| by
 intro (bs : Th (List Int)) (p : Th Int) ⟨(m : Th PMap), (s : Th Srv), u⟩ K _ _ ho h
 obtain ⟨m, rfl⟩ := th_ex m; obtain ⟨s, rfl⟩ := th_ex s
 have hl := okL (ho.2.1 _ (.tail _ (.head _)))
 have hl2 := okL (ho.2.1 _ (.tail _ (.tail _ (.head _))))
 have hb : plcOk m = false ∨ gstsOkS m s.ghosts = false ∨ srvUp s = false → srvOk m s = false := by
  intro hh
  rcases hh with hh | hh | hh <;> simp [srvOk, gstsOk, hh]
 have hb2 : plcOk m = true → gstsOkS m s.ghosts = true → gstsOk m s.ghosts = true := fun h1 h2 => by simp [gstsOk, h1, h2]
 refine ⟨annL [(84, 4, ⟨Nat, [], fun σ k => σ.t 5 (vI fun _ => (k : Int)), fun _ k _ => k ≤ s.holds.length ∧ gstsOk m s.ghosts = true ∧ srvUp s = true ∧ allTo k (hldAt m s.holds) = true, fun _ k _ => s.holds.length - k⟩)], noAnn, 20, ?_⟩
 cbv
 repeat' first | ((with_reducible refine fun (k : Nat) => ?_); cbv) | ((with_reducible intro _); cbv) | (with_reducible refine And.intro ?_ ?_)
 all_goals try ((first | (with_reducible refine LoopIn.mk ((0 : Nat)) ?_ ?_) | (with_reducible refine LoopBack.mk ((k + 1 : Nat)) ?_ ?_ ?_)) )
 all_goals try ((with_reducible show matchSt _ _); cbv; (try simp only [and_true, true_and]))
 all_goals try (repeat' with_reducible refine And.intro ?_ ?_)
 all_goals first | (refine retK h ?_; clear h; simp only [fin0]) | (with_reducible refine Ob.mk ?_; clear h) | (clear h)
 all_goals (try simp only [eta0, RT.bytes] at *)
 all_goals grind [wrap_succ, wrap_id, wrap_pred, srv_bad1, srv_bad2, srv_all, srvUp, hldAt, allTo_zero, allTo_succ]
theorem okHoldAt : SpecOk1 Tryz.prog 112 sHoldPlace := spec1 tabOk (ss := []) trivial rfl rfl <| by
 intro (bs : Th (List Int)) (p : Th Int) ⟨(s : Th Srv), (c : Th Int), u⟩ K _ _ ho h
 obtain ⟨s, rfl⟩ := th_ex s; obtain ⟨c, rfl⟩ := th_ex c
 have hl := okL (ho.1 _ (.tail _ (.head _)))
 refine ⟨annL [(92, 2, ⟨Nat, [], fun σ k => σ.t 8 (vI fun _ => (k : Int)), fun _ k _ => k ≤ s.holds.length ∧ allTo k (ncell s.holds c) = true, fun _ k _ => s.holds.length - k⟩)], noAnn, 20, ?_⟩
 cbv
 repeat' first | ((with_reducible refine fun (k : Nat) => ?_); cbv) | ((with_reducible intro _); cbv) | (with_reducible refine And.intro ?_ ?_)
 all_goals try ((first | (with_reducible refine LoopIn.mk ((0 : Nat)) ?_ ?_) | (with_reducible refine LoopBack.mk ((k + 1 : Nat)) ?_ ?_ ?_)) )
 all_goals try ((with_reducible show matchSt _ _); cbv; (try simp only [and_true, true_and]))
 all_goals try (repeat' with_reducible refine And.intro ?_ ?_)
 all_goals first | (refine retK h ?_; clear h; simp only [fin0]) | (with_reducible refine Ob.mk ?_; clear h) | (clear h)
 all_goals (try simp only [eta0, RT.bytes] at *)
 all_goals grind [allTo_zero, allTo_succ, ncell, isCell, hold_at, hold_none, wrap_succ]
theorem okSSrvHold : SpecOk1 Tryz.prog 120 sSrvHold := spec1 tabOk (ss := [(124, sCloneH)]) ⟨okL7Copy, trivial⟩ rfl rfl <| by
 intro (bs : Th (List Int)) (p : Th Int) ⟨(s : Th Srv), (c : Th Int), u⟩ K _ _ ho h
 obtain ⟨s, rfl⟩ := th_ex s; obtain ⟨c, rfl⟩ := th_ex c
 have hl := okL (ho.1 _ (.tail _ (.head _)))
 refine ⟨annL [(120, 2, ⟨Nat, [], fun σ k => σ.t 6 (vI fun _ => (k : Int)), fun _ k _ => k ≤ s.holds.length ∧ allTo k (ncell s.holds c) = true, fun _ k _ => s.holds.length - k⟩)], noAnn, 20, ?_⟩
 cbv
 repeat' first | ((with_reducible refine fun (k : Nat) => ?_); cbv) | ((with_reducible intro _); cbv) | (with_reducible refine And.intro ?_ ?_)
 all_goals try ((first | (with_reducible refine LoopIn.mk ((0 : Nat)) ?_ ?_) | (with_reducible refine LoopBack.mk ((k + 1 : Nat)) ?_ ?_ ?_)) )
 all_goals try ((with_reducible show matchSt _ _); cbv; (try simp only [and_true, true_and]))
 all_goals try (repeat' with_reducible refine And.intro ?_ ?_)
 all_goals first | (refine retK h ?_; clear h; simp only [fin0]) | (with_reducible refine Ob.mk ?_; clear h) | (clear h)
 all_goals (try simp only [eta0, RT.bytes] at *)
 all_goals grind (splits := 40) [allTo_zero, allTo_succ, ncell, isCell, hold_at, hold_none, wrap_succ, srvHold, srvHas, zeroH, zeroC]
theorem okCloneG : SpecOk1 Tryz.prog 106 sCloneG := spec1 tabOk (ss := []) trivial rfl rfl <| by
 intro (bs : Th (List Int)) (p : Th Int) ⟨(l : Th (List Gst)), u⟩ K _ _ ho h
 obtain ⟨l, rfl⟩ := th_ex l
 have hl := okB (ho.1 _ (.head _))
 refine ⟨noAnn, noAnn, 20, ?_⟩
 cbv
 repeat' first | ((with_reducible intro _); cbv) | (with_reducible refine And.intro ?_ ?_)
 all_goals first | (refine retK h ?_; clear h; simp only [fin0]) | (with_reducible refine Ob.mk ?_; clear h) | (clear h)
 all_goals (try simp only [eta0, RT.bytes] at *)
 all_goals grind
theorem okCloneV : SpecOk1 Tryz.prog 62 sCloneV := spec1 tabOk (ss := [(106, sCloneG), (107, sCloneH)]) ⟨okCloneG, okCloneH, trivial⟩ rfl rfl <| by
 intro (bs : Th (List Int)) (p : Th Int) ⟨(s : Th Srv), u⟩ K _ _ ho h
 obtain ⟨s, rfl⟩ := th_ex s
 have hl := okB (ho.1 _ (.tail _ (.head _)))
 have hl2 := okB (ho.1 _ (.tail _ (.tail _ (.head _))))
 have hz := pre_len s.holds
 have hs := fun k => @pre_succ .hld s.holds k
 refine ⟨annL [(62, 3, ⟨Nat, [⟨.cell 4 1, some 25, .hld⟩], fun σ k => ((σ.t 15 (vI fun _ => (k : Int))).cellC 4 1 (.own 25 1)).row 25 1 .hld (fun _ => pre s.holds k), fun _ k _ => k ≤ s.holds.length, fun _ k _ => s.holds.length - k⟩)], noAnn, 20, ?_⟩
 cbv
 repeat' first | ((with_reducible refine fun (k : Nat) => ?_); cbv) | ((with_reducible intro _); cbv) | (with_reducible refine And.intro ?_ ?_)
 all_goals try ((first | (with_reducible refine LoopIn.mk ((0 : Nat)) ?_ ?_) | (with_reducible refine LoopBack.mk ((k + 1 : Nat)) ?_ ?_ ?_)) )
 all_goals try ((with_reducible show matchSt _ _); cbv; (try simp only [and_true, true_and]))
 all_goals try (repeat' with_reducible refine And.intro ?_ ?_)
 all_goals first | (refine retK h ?_; clear h; simp only [fin0]) | (with_reducible refine Ob.mk ?_; clear h) | (clear h)
 all_goals (try simp only [eta0, RT.bytes] at *)
 all_goals grind [pre_zero, pre_all, wrap_succ]
theorem okL11Copy : SpecOk1 Tryz.prog 81 sCloneV := spec1 tabOk (ss := [(124, sCloneH)]) ⟨okL7Copy, trivial⟩ rfl rfl <| by
 intro (bs : Th (List Int)) (p : Th Int) ⟨(s : Th Srv), u⟩ K _ _ ho h
 obtain ⟨s, rfl⟩ := th_ex s
 have hl := okB (ho.1 _ (.tail _ (.head _)))
 have hl2 := okB (ho.1 _ (.tail _ (.tail _ (.head _))))
 have hz := pre_len s.holds
 have hs := fun k => @pre_succ .hld s.holds k
 refine ⟨annL [(81, 3, ⟨Nat, [⟨.cell 4 1, some 29, .hld⟩], fun σ k => (((σ.fg 8).t 4 (vI fun _ => (k : Int))).cellC 4 1 (.own 29 1)).row 29 1 .hld (fun _ => pre s.holds k), fun _ k _ => k ≤ s.holds.length, fun _ k _ => s.holds.length - k⟩)], noAnn, 20, ?_⟩
 cbv
 repeat' first | ((with_reducible refine fun (k : Nat) => ?_); cbv) | ((with_reducible intro _); cbv) | (with_reducible refine And.intro ?_ ?_)
 all_goals try ((first | (with_reducible refine LoopIn.mk ((0 : Nat)) ?_ ?_) | (with_reducible refine LoopBack.mk ((k + 1 : Nat)) ?_ ?_ ?_)) )
 all_goals try ((with_reducible show matchSt _ _); cbv; (try simp only [and_true, true_and]))
 all_goals try (repeat' with_reducible refine And.intro ?_ ?_)
 all_goals first | (refine retK h ?_; clear h; simp only [fin0]) | (with_reducible refine Ob.mk ?_; clear h) | (clear h)
 all_goals (try simp only [eta0, RT.bytes] at *)
 all_goals grind [pre_zero, pre_all, wrap_succ]
theorem okCloneSs : SpecOk1 Tryz.prog 59 sCloneSs := spec1 tabOk (ss := [(105, sCloneS)]) ⟨okCloneS, trivial⟩ rfl rfl <| by
 intro (bs : Th (List Int)) (p : Th Int) ⟨(l : Th (List Sto)), u⟩ K _ _ ho h
 obtain ⟨l, rfl⟩ := th_ex l
 have hl := okB (ho.1 _ (.head _))
 have hz := pre_len l
 have hs := fun k => @pre_succ .sto l k
 refine ⟨annL [(59, 3, ⟨Nat, [⟨.tmp 3 0, some 17, .sto⟩], fun σ k => ((σ.t 8 (vI fun _ => (k : Int))).t 3 (vO 17 1)).row 17 1 .sto (fun _ => pre l k), fun _ k _ => k ≤ l.length, fun _ k _ => l.length - k⟩)], noAnn, 20, ?_⟩
 cbv
 repeat' first | ((with_reducible refine fun (k : Nat) => ?_); cbv) | ((with_reducible intro _); cbv) | (with_reducible refine And.intro ?_ ?_)
 all_goals try ((first | (with_reducible refine LoopIn.mk ((0 : Nat)) ?_ ?_) | (with_reducible refine LoopBack.mk ((k + 1 : Nat)) ?_ ?_ ?_)) )
 all_goals try ((with_reducible show matchSt _ _); cbv; (try simp only [and_true, true_and]))
 all_goals try (repeat' with_reducible refine And.intro ?_ ?_)
 all_goals first | (refine retK h ?_; clear h; simp only [fin0]) | (with_reducible refine Ob.mk ?_; clear h) | (clear h)
 all_goals (try simp only [eta0, RT.bytes] at *)
 all_goals grind [pre_zero, pre_all, wrap_succ]
theorem okL11Stores : SpecOk1 Tryz.prog 79 sCloneSs := spec1 tabOk (ss := [(123, sCloneS)]) ⟨okL6Copy, trivial⟩ rfl rfl <| by
 intro (bs : Th (List Int)) (p : Th Int) ⟨(l : Th (List Sto)), u⟩ K _ _ ho h
 obtain ⟨l, rfl⟩ := th_ex l
 have hl := okB (ho.1 _ (.head _))
 have hz := pre_len l
 have hs := fun k => @pre_succ .sto l k
 refine ⟨annL [(79, 3, ⟨Nat, [⟨.tmp 3 0, some 6, .sto⟩], fun σ k => (((σ.fg 6).t 4 (vI fun _ => (k : Int))).t 3 (vO 6 1)).row 6 1 .sto (fun _ => pre l k), fun _ k _ => k ≤ l.length, fun _ k _ => l.length - k⟩)], noAnn, 20, ?_⟩
 cbv
 repeat' first | ((with_reducible refine fun (k : Nat) => ?_); cbv) | ((with_reducible intro _); cbv) | (with_reducible refine And.intro ?_ ?_)
 all_goals try ((first | (with_reducible refine LoopIn.mk ((0 : Nat)) ?_ ?_) | (with_reducible refine LoopBack.mk ((k + 1 : Nat)) ?_ ?_ ?_)) )
 all_goals try ((with_reducible show matchSt _ _); cbv; (try simp only [and_true, true_and]))
 all_goals try (repeat' with_reducible refine And.intro ?_ ?_)
 all_goals first | (refine retK h ?_; clear h; simp only [fin0]) | (with_reducible refine Ob.mk ?_; clear h) | (clear h)
 all_goals (try simp only [eta0, RT.bytes] at *)
 all_goals grind [pre_zero, pre_all, wrap_succ]
theorem okStosOk : SpecOk1 Tryz.prog 44 sStosOk := spec1 tabOk (ss := [(87, sStoOk), (41, sPlcOk)]) ⟨okStoOk, okPlcOk, trivial⟩ rfl rfl <| by
 intro (bs : Th (List Int)) (p : Th Int) ⟨(m : Th PMap), (l : Th (List Sto)), u⟩ K _ _ ho h
 obtain ⟨m, rfl⟩ := th_ex m; obtain ⟨l, rfl⟩ := th_ex l
 have hl := okL (ho.2.1 _ (.head _))
 refine ⟨annL [(44, 2, ⟨Nat, [], fun σ k => σ.t 9 (vI fun _ => (k : Int)), fun _ k _ => k ≤ l.length ∧ allTo k (stoAt m l) = true, fun _ k _ => l.length - k⟩)], noAnn, 20, ?_⟩
 cbv
 repeat' first | ((with_reducible refine fun (k : Nat) => ?_); cbv) | ((with_reducible intro _); cbv) | (with_reducible refine And.intro ?_ ?_)
 all_goals try ((first | (with_reducible refine LoopIn.mk ((0 : Nat)) ?_ ?_) | (with_reducible refine LoopBack.mk ((k + 1 : Nat)) ?_ ?_ ?_)) )
 all_goals try ((with_reducible show matchSt _ _); cbv; (try simp only [and_true, true_and]))
 all_goals try (repeat' with_reducible refine And.intro ?_ ?_)
 all_goals first | (refine retK h ?_; clear h; simp only [fin0]) | (with_reducible refine Ob.mk ?_; clear h) | (clear h)
 all_goals (try simp only [eta0, RT.bytes] at *)
 all_goals grind [wrap_succ, stos_bad1, stos_bad2, stos_all, stoAt, allTo_zero, allTo_succ]
theorem okSStosOk : SpecOk1 Tryz.prog 36 sStosOk := spec1 tabOk (ss := [(34, sPlcOk), (82, sStoOk)]) ⟨okSPlcOk, okSStoOk, trivial⟩ rfl rfl <| by
 intro (bs : Th (List Int)) (p : Th Int) ⟨(m : Th PMap), (l : Th (List Sto)), u⟩ K _ _ ho h
 obtain ⟨m, rfl⟩ := th_ex m; obtain ⟨l, rfl⟩ := th_ex l
 have hl := okL (ho.2.1 _ (.head _))
 have hb : plcOk m = false ∨ ¬ (l.length : Int) = m.cells → stosOk m l = false := by
  intro hh
  rcases hh with hh | hh <;> simp [stosOk, hh]
 refine ⟨annL [(36, 4, ⟨Nat, [], fun σ k => σ.t 5 (vI fun _ => (k : Int)), fun _ k _ => k ≤ l.length ∧ plcOk m = true ∧ (l.length : Int) = m.cells ∧ allTo k (stoAt m l) = true, fun _ k _ => l.length - k⟩)], noAnn, 20, ?_⟩
 cbv
 repeat' first | ((with_reducible refine fun (k : Nat) => ?_); cbv) | ((with_reducible intro _); cbv) | (with_reducible refine And.intro ?_ ?_)
 all_goals try ((first | (with_reducible refine LoopIn.mk ((0 : Nat)) ?_ ?_) | (with_reducible refine LoopBack.mk ((k + 1 : Nat)) ?_ ?_ ?_)) )
 all_goals try ((with_reducible show matchSt _ _); cbv; (try simp only [and_true, true_and]))
 all_goals try (repeat' with_reducible refine And.intro ?_ ?_)
 all_goals first | (refine retK h ?_; clear h; simp only [fin0]) | (with_reducible refine Ob.mk ?_; clear h) | (clear h)
 all_goals (try simp only [eta0, RT.bytes] at *)
 all_goals grind [wrap_succ, stos_bad1, stos_bad2, stos_all, stoAt, allTo_zero, allTo_succ]
theorem okGhosts : SpecOk1 Tryz.prog 113 sGhosts := spec1 tabOk (ss := [(143, sPlcEdge)]) ⟨okPlcEdge, trivial⟩ rfl rfl <| by
 intro (bs : Th (List Int)) (p : Th Int) ⟨(h0 : Th Hld), (m : Th PMap), (s : Th Int), u⟩ K _ _ ho h
 obtain ⟨h0, rfl⟩ := th_ex h0; obtain ⟨m, rfl⟩ := th_ex m; obtain ⟨s, rfl⟩ := th_ex s
 obtain ⟨ha, h⟩ := h
 have ha := ha.out
 have hl := okB (ho.1 _ (.tail _ (.tail _ (.tail _ (.head _)))))
 have hz := ghTo_len m h0 s
 refine ⟨annL [(113, 3, ⟨Nat, [⟨.tmp 7 0, some 33, .gst⟩], fun σ k => ((σ.t 14 (vI fun _ => (k : Int))).t 7 (vO 33 1)).row 33 1 .gst (fun _ => ghTo m h0 s k), fun _ k _ => k ≤ h0.state.wlks.length, fun _ k _ => h0.state.wlks.length - k⟩)], noAnn, 20, ?_⟩
 cbv
 repeat' first | ((with_reducible refine fun (k : Nat) => ?_); cbv) | ((with_reducible intro _); cbv) | (with_reducible refine And.intro ?_ ?_)
 all_goals try ((first | (with_reducible refine LoopIn.mk ((0 : Nat)) ?_ ?_) | (with_reducible refine LoopBack.mk ((k + 1 : Nat)) ?_ ?_ ?_)) )
 all_goals try ((with_reducible show matchSt _ _); cbv; (try simp only [and_true, true_and]))
 all_goals try (repeat' with_reducible refine And.intro ?_ ?_)
 all_goals first | (refine retK h ?_; clear h; simp only [fin0]) | (with_reducible refine Ob.mk ?_; clear h) | (clear h)
 all_goals (try simp only [eta0, RT.bytes] at *)
 all_goals grind [ghTo_zero, ghTo_yes, ghTo_no, ghosts, wrap_succ]
theorem okSGstOf : SpecOk1 Tryz.prog 169 sGstOf := spec1 tabOk (ss := [(128, sHldOk), (177, sPlcEdge)]) ⟨okSHldOk, okSPlcEdge, trivial⟩ rfl rfl <| by
 intro (bs : Th (List Int)) (p : Th Int) ⟨(m : Th PMap), (h0 : Th Hld), (s : Th Int), u⟩ K _ _ ho h
 obtain ⟨m, rfl⟩ := th_ex m; obtain ⟨h0, rfl⟩ := th_ex h0; obtain ⟨s, rfl⟩ := th_ex s
 have hn : hldOk m h0 = true → h0.state.wlks.length ≤ 9 := fun h => cllOk_len (hldOk_iff.1 h).2.2
 have hl := okB (ho.2.1 _ (.tail _ (.tail _ (.tail _ (.head _)))))
 have hz := ghTo_len m h0 s
 refine ⟨annL [(169, 5, ⟨Nat, [⟨.tmp 7 0, some 11, .gst⟩], fun σ k => (((σ.fg 11).t 8 (vI fun _ => (k : Int))).t 7 (vO 11 1)).row 11 1 .gst (fun _ => ghTo m h0 s k), fun _ k _ => k ≤ h0.state.wlks.length ∧ hldOk m h0 = true, fun _ k _ => h0.state.wlks.length - k⟩)], noAnn, 20, ?_⟩
 cbv
 repeat' first | ((with_reducible refine fun (k : Nat) => ?_); cbv) | ((with_reducible intro _); cbv) | (with_reducible refine And.intro ?_ ?_)
 all_goals try ((first | (with_reducible refine LoopIn.mk ((0 : Nat)) ?_ ?_) | (with_reducible refine LoopBack.mk ((k + 1 : Nat)) ?_ ?_ ?_)) )
 all_goals try ((with_reducible show matchSt _ _); cbv; (try simp only [and_true, true_and]))
 all_goals try (repeat' with_reducible refine And.intro ?_ ?_)
 all_goals first | (refine retK h ?_; clear h; simp only [fin0]) | (with_reducible refine Ob.mk ?_; clear h) | (clear h)
 all_goals (try simp only [eta0, RT.bytes] at *)
 all_goals grind [ghTo_zero, ghTo_yes, ghTo_no, ghosts, wrap_succ]
noncomputable def sTick : Sx.Spec := ⟨false, true, [.row .srv, .map, .arb, .int .i64], [[some .msg]], fun _ _ ⟨s, m, t, c, _⟩ => .asrt (fun _ => srvOk (m ()) (s ()) = true) (.ret (vW .msg fun _ => srvTick (m ()) (s ()) (t ()) (c ()), fun _ => 0))⟩
theorem takeIf {α : Type} (l : List α) : List.drop (Int.toNat 0) (List.take (if (l.length : Int) < 4 then (l.length : Int) else 4).toNat l) = l.take 4 := by
 show List.drop 0 _ = _
 rw [List.drop_zero]
 by_cases h : (l.length : Int) < 4
 ·rw [if_pos h, Int.toNat_natCast, List.take_of_length_le (by omega), List.take_of_length_le (by omega)]
 ·rw [if_neg h]; rfl
theorem nth_take4 {t : RT} {l : List t.ty} {k : Nat} (h : k < 4) : nth t (l.take 4) k = nth t l k := by
 unfold nth
 grind
theorem tick_hold {m : PMap} {s : Srv} {t : Arb} {c : Int} (ha : srvOk m s = true) (hz : ¬ (holdPlace s.holds c < 0)) : (nth .hld s.holds (holdPlace s.holds c).toNat).state.outs.length = 2 ∧ (nth .hld s.holds (holdPlace s.holds c).toNat).state.wlks.length ≤ 9 ∧ tkTo m t (nth .hld s.holds (holdPlace s.holds c).toNat) c 2 = srvTick m s t c := by
 have hp := hold_lt s.holds c
 have h1 : srvHas s c = true := by simp [srvHas]; omega
 have h2 : srvHold s c = nth .hld s.holds (holdPlace s.holds c).toNat := by unfold srvHold; rw [if_pos (by omega)]
 have h3 := cllOk_facts (hldOk_iff.1 (srv_at ha (show (holdPlace s.holds c).toNat < s.holds.length by omega))).2.2
 refine ⟨h3.2.2.2.2.2.2.1, cllOk_len (hldOk_iff.1 (srv_at ha (show (holdPlace s.holds c).toNat < s.holds.length by omega))).2.2, ?_⟩
 ·rw [← h2]; exact tkTo_two h1
theorem tick_none {m : PMap} {s : Srv} {t : Arb} {c : Int} (hz : holdPlace s.holds c < 0) : srvTick m s t c = [] := by
 have h1 : srvHas s c = false := by simp [srvHas]; omega
 unfold srvTick
 rw [h1]; rfl
theorem ncastU (n : Nat) : (NatCast.natCast n : Int) = (n : Int) := rfl
theorem wrap_nat {k : Nat} (h : k ≤ 1000) : (IntKind.i64.wrap ((k : Int) + 1)).toNat = k + 1 := by rw [wrap_succ (by omega)]; rfl
theorem tkP_say {m : PMap} {t : Arb} {h : Hld} {c : Int} {T : List Msg} {i j : Nat} (hj : j < (List.take 4 (nth .pcls h.state.outs i)).length) : T ++ tkP m t h c (i : Int) j ++ [(⟨5, arbServer t (plcSide m c i), plcSide m c i, 1 - (i : Int), 0, ⟨0, 0, 0, 0, 0⟩, nth .pcl (List.take 4 (nth .pcls h.state.outs i)) j, ⟨0, 0, ⟨0, 0, 0, 0, 0⟩⟩⟩ : Msg)] = T ++ tkP m t h c (i : Int) (j + 1) := by
 have h2 : j < 4 ∧ j < (nth .pcls h.state.outs i).length := by rw [List.length_take] at hj; omega
 have h3 : j < (nth .pcls h.state.outs (i : Int).toNat).length := h2.2
 rw [tkP_succ h3, List.append_assoc, nth_take4 h2.1]
 rfl
theorem tkG_say {m : PMap} {t : Arb} {h : Hld} {c : Int} {T : List Msg} {i j : Nat} (hj : j < (List.take 4 (ghosts m h (i : Int))).length) : T ++ tkG m t h c (i : Int) j ++ [(⟨7, arbServer t (plcSide m c i), plcSide m c i, 1 - (i : Int), 0, ⟨0, 0, 0, 0, 0⟩, ⟨0, 0, ⟨0, 0, 0, 0, 0⟩, 0⟩, nth .gst (List.take 4 (ghosts m h (i : Int))) j⟩ : Msg)] = T ++ tkG m t h c (i : Int) (j + 1) := by
 have h2 : j < 4 ∧ j < (ghosts m h (i : Int)).length := by rw [List.length_take] at hj; omega
 rw [tkG_succ h2.2, List.append_assoc, nth_take4 h2.1]
 rfl
theorem okTick : SpecOk1 Tryz.prog 69 sTick := spec1 tabOk (ss := [(112, sHoldPlace), (93, sPlcSide), (109, sArbServer), (113, sGhosts)]) ⟨okHoldAt, okPlcSide, okArbServer, okGhosts, trivial⟩ rfl rfl <| by
 intro (bs : Th (List Int)) (p : Th Int) ⟨(s : Th Srv), (m : Th PMap), (t : Th Arb), (c : Th Int), u⟩ K _ _ ho h
 obtain ⟨s, rfl⟩ := th_ex s; obtain ⟨m, rfl⟩ := th_ex m; obtain ⟨t, rfl⟩ := th_ex t; obtain ⟨c, rfl⟩ := th_ex c
 obtain ⟨ha, h⟩ := h
 have ha : srvOk m s = true := ha.out
 have hp := hold_lt s.holds c
 have hz : ¬ (holdPlace s.holds c < 0) → (nth .hld s.holds (holdPlace s.holds c).toNat).state.outs.length = 2 ∧ (nth .hld s.holds (holdPlace s.holds c).toNat).state.wlks.length ≤ 9 ∧ tkTo m t (nth .hld s.holds (holdPlace s.holds c).toNat) c 2 = srvTick m s t c := fun hz => tick_hold ha hz
 have hz0 : holdPlace s.holds c < 0 → srvTick m s t c = [] := fun hz => tick_none hz
 have hn : ∀ k : Nat, (k : Int) < 2 → IntKind.i64.wrap (1 - (k : Int)) = 1 - (k : Int) := fun k hk => wrap_id (by omega) (by omega)
 refine ⟨annL [(69, 7, ⟨Th Int × Th Bool, [⟨.tmp 11 0, some 500, .msg⟩], fun σ g => (fun (H : Th Hld) => (((σ.only [3, 4, 5, 6, 8, 10]).t 33 (.one (.att (.int .i64 g.1)))).t 11 (vO 500 1)).row 500 1 .msg (fun _ => tkTo m t (nth .hld s.holds (holdPlace s.holds c).toNat) c (g.1 ()).toNat)) (fun _ => zeroH), fun _ g _ => Ob fun _ => 0 ≤ g.1 () ∧ g.1 () ≤ 2 ∧ 0 ≤ holdPlace s.holds c, fun _ g _ => 2 - (g.1 ()).toNat⟩),
  (69, 14, ⟨Th Bool × Th Int, [⟨.tmp 11 0, some 500, .msg⟩], fun σ g => (fun (S : Th Int) => (((σ.only [3, 4, 5, 6, 8, 10, 12, 13, 14, 15, 33, 68, 69]).t 70 (.one (.att (.int .i64 g.2)))).t 11 (vO 500 1)).row 500 1 .msg (fun _ => tkTo m t (nth .hld s.holds (holdPlace s.holds c).toNat) c (S ()).toNat ++ tkP m t (nth .hld s.holds (holdPlace s.holds c).toNat) c (S ()) (g.2 ()).toNat)) (σ.tmI 12), fun σ g _ => Ob ((fun (S : Th Int) => fun _ => 0 ≤ g.2 () ∧ g.2 () ≤ 4 ∧ g.2 () ≤ (nth .pcls (nth .hld s.holds (holdPlace s.holds c).toNat).state.outs (S ()).toNat).length) (σ.tmI 12)), fun _ g _ => 5 - (g.2 ()).toNat⟩),
  (69, 22, ⟨Th Int × Th Int, [⟨.tmp 11 0, some 500, .msg⟩], fun σ g => (fun (S : Th Int) => (((σ.only [3, 4, 5, 6, 8, 10, 12, 13, 14, 15, 33, 91, 92]).t 93 (.one (.att (.int .i64 g.1)))).t 11 (vO 500 1)).row 500 1 .msg (fun _ => tkTo m t (nth .hld s.holds (holdPlace s.holds c).toNat) c (S ()).toNat ++ tkP m t (nth .hld s.holds (holdPlace s.holds c).toNat) c (S ()) 4 ++ tkG m t (nth .hld s.holds (holdPlace s.holds c).toNat) c (S ()) (g.1 ()).toNat)) (σ.tmI 12), fun σ g _ => Ob ((fun (S : Th Int) => fun _ => 0 ≤ g.1 () ∧ g.1 () ≤ 4 ∧ g.1 () ≤ (ghosts m (nth .hld s.holds (holdPlace s.holds c).toNat) (S ())).length) (σ.tmI 12)), fun _ g _ => 5 - (g.1 ()).toNat⟩)], noAnn, 20, ?_⟩
 cbv
 repeat' first | ((with_reducible refine fun (g : Th Int × Th Bool) => ?_); obtain ⟨i, z⟩ := g; obtain ⟨i, rfl⟩ := th_ex i; obtain ⟨z, rfl⟩ := th_ex z; (with_reducible refine ImpB.out ?_); cbv; (with_reducible refine ImpB.mk ?_); intro hq; obtain ⟨hq⟩ := hq; have hq0 := hq.1; obtain ⟨i, rfl⟩ := Int.eq_ofNat_of_zero_le hq0; clear hq0) | ((with_reducible refine fun (g : Th Bool × Th Int) => ?_); obtain ⟨z, j⟩ := g; obtain ⟨z, rfl⟩ := th_ex z; obtain ⟨j, rfl⟩ := th_ex j; (with_reducible refine ImpB.out ?_); cbv; (with_reducible refine ImpB.mk ?_); intro hq; obtain ⟨hq⟩ := hq; have hq0 := hq.1; obtain ⟨j, rfl⟩ := Int.eq_ofNat_of_zero_le hq0; clear hq0) | ((with_reducible refine fun (g : Th Int × Th Int) => ?_); obtain ⟨k, z⟩ := g; obtain ⟨k, rfl⟩ := th_ex k; obtain ⟨z, rfl⟩ := th_ex z; (with_reducible refine ImpB.out ?_); cbv; (with_reducible refine ImpB.mk ?_); intro hq; obtain ⟨hq⟩ := hq; have hq0 := hq.1; obtain ⟨k, rfl⟩ := Int.eq_ofNat_of_zero_le hq0; clear hq0) | ((with_reducible intro _); cbv) | (with_reducible refine And.intro ?_ ?_)
 all_goals try ((first | (with_reducible refine LoopIn.wf (fun σ => (σ.tmI 33, noBool)) ?_ ?_) | (with_reducible refine LoopBack.wf (fun σ => (σ.tmI 33, noBool)) ?_ ?_ ?_) | (with_reducible refine LoopIn.wf (fun σ => (noBool, σ.tmI 70)) ?_ ?_) | (with_reducible refine LoopBack.wf (fun σ => (noBool, σ.tmI 70)) ?_ ?_ ?_) | (with_reducible refine LoopIn.wf (fun σ => (σ.tmI 93, noInt)) ?_ ?_) | (with_reducible refine LoopBack.wf (fun σ => (σ.tmI 93, noInt)) ?_ ?_ ?_)) <;> cbv)
 all_goals try (with_reducible show _ ∧ _; (try simp only [and_true, true_and]))
 all_goals try (repeat' with_reducible refine And.intro ?_ ?_)
 all_goals try (with_reducible refine MeasB.mk ?_)
 all_goals first | (refine retK h ?_; clear h; simp only [fin0]) | (with_reducible refine Ob.mk ?_; clear h) | (clear h)
 all_goals (try simp only [eta0, RT.bytes] at *)
 all_goals (try dsimp only [RT.ty] at *)
 all_goals (try simp only [takeIf, Int.toNat_natCast] at *)
 all_goals (try simp only [ncastU] at *)
 all_goals (try simp (disch := assumption) only [hn])
 all_goals (first | omega | (simp (disch := omega) only [wrap_nat]; first | exact tkP_say ‹_› | exact tkG_say ‹_›) | grind [wrap_succ, tkTo_zero, tkTo_skip, tkTo_say, tkP_zero, tkP_succ, tkP_end, tkG_zero, tkG_succ, tkG_end, tkP_len, tkG_len, tkTo_len, zeroOrd, zeroPcl, zeroGst, nth_take4])
end Go.Proofs.YtjdaiobeiimpfaaGreat
