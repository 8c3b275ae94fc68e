/-
  Contracts: ghosts, the table.
-/
import Derived.Test.YtjdaiobeiimpfaaGreatInsW
import Derived.Test.YtjdaiobeiimpfaaGreatM2
import Derived.Test.YtjdaiobeiimpfaaGreatM1
set_option linter.unusedVariables false
set_option linter.unusedSimpArgs false
set_option maxRecDepth 100000
set_option maxHeartbeats 8000000
namespace Go.Proofs.YtjdaiobeiimpfaaGreat
open Go.Sx Go.Proofs Go.Mo
noncomputable def sGstOk : Sx.Spec := ⟨false, true, [.map, .row .gst], [], fun _ _ ⟨m, g, _⟩ => .ret (vB fun _ => gstOk (m ()) (g ()), fun _ => 0)⟩
noncomputable def sGstLess : Sx.Spec := ⟨false, true, [.row .gst, .row .gst], [], fun _ _ ⟨a, b, _⟩ => .ret (vB fun _ => gstLess (a ()) (b ()), fun _ => 0)⟩
noncomputable def sGstsOk : Sx.Spec := ⟨false, true, [.map, .list .gst], [], fun _ _ ⟨m, l, _⟩ => .ret (vB fun _ => gstsOk (m ()) (l ()), fun _ => 0)⟩
noncomputable def sGstsOkS : Sx.Spec := ⟨false, true, [.map, .list .gst], [], fun _ _ ⟨m, l, _⟩ => .ret (vB fun _ => gstsOkS (m ()) (l ()), fun _ => 0)⟩
noncomputable def sArbOk : Sx.Spec := ⟨false, true, [.map, .arb, .int .i64], [], fun _ _ ⟨m, t, s, _⟩ => .ret (vB fun _ => arbOk (m ()) (t ()) (s ()), fun _ => 0)⟩
noncomputable def sArbServer : Sx.Spec := ⟨false, true, [.arb, .int .i64], [], fun _ _ ⟨t, c, _⟩ => .ret (vI fun _ => arbServer (t ()) (c ()), fun _ => 0)⟩
theorem okGstOk : SpecOk1 Tryz.prog 95 sGstOk := spec1 tabOk (ss := [(53, sIn), (141, sWlkOk), (142, sPlcCell), (143, sPlcEdge)]) ⟨okIn, okWlkOk, okPlcCell, okPlcEdge, trivial⟩ rfl rfl <| by
 intro (bs : Th (List Int)) (p : Th Int) ⟨(m : Th PMap), (g : Th Gst), u⟩ K _ _ ho h
 obtain ⟨m, rfl⟩ := th_ex m; obtain ⟨g, rfl⟩ := th_ex g
 refine ⟨noAnn, noAnn, 20, ?_⟩
 cbv
 repeat' first | ((with_reducible intro _); cbv) | (with_reducible refine And.intro ?_ ?_)
 all_goals first | (refine retK h ?_; clear h; simp only [fin0]) | (with_reducible refine Ob.mk ?_; clear h) | (clear h)
 all_goals (try simp only [eta0, RT.bytes] at *)
 all_goals grind [gstOk, inR]
theorem okSGstOk : SpecOk1 Tryz.prog 132 sGstOk := spec1 tabOk (ss := [(75, sIn), (176, sWlkOk), (172, sPlcCell), (177, sPlcEdge)]) ⟨okL1In, okSWlkOk, okSPlcCell, okSPlcEdge, trivial⟩ rfl rfl <| by
 intro (bs : Th (List Int)) (p : Th Int) ⟨(m : Th PMap), (g : Th Gst), u⟩ K _ _ ho h
 obtain ⟨m, rfl⟩ := th_ex m; obtain ⟨g, rfl⟩ := th_ex g
 refine ⟨noAnn, noAnn, 20, ?_⟩
 cbv
 repeat' first | ((with_reducible intro _); cbv) | (with_reducible refine And.intro ?_ ?_)
 all_goals first | (refine retK h ?_; clear h; simp only [fin0]) | (with_reducible refine Ob.mk ?_; clear h) | (clear h)
 all_goals (try simp only [eta0, RT.bytes] at *)
 all_goals grind [gstOk, inR]
theorem okAhead : SpecOk1 Tryz.prog 138 sGstLess := spec1 tabOk (ss := []) trivial rfl rfl <| by
 intro (bs : Th (List Int)) (p : Th Int) ⟨(a : Th Gst), (b : Th Gst), u⟩ K _ _ ho h
 obtain ⟨a, rfl⟩ := th_ex a; obtain ⟨b, rfl⟩ := th_ex b
 refine ⟨noAnn, noAnn, 20, ?_⟩
 cbv
 repeat' first | ((with_reducible intro _); cbv) | (with_reducible refine And.intro ?_ ?_)
 all_goals first | (refine retK h ?_; clear h; simp only [fin0]) | (with_reducible refine Ob.mk ?_; clear h) | (clear h)
 all_goals (try simp only [eta0, RT.bytes] at *)
 all_goals grind [gstLess]
theorem okL8Less : SpecOk1 Tryz.prog 175 sGstLess := spec1 tabOk (ss := []) trivial rfl rfl <| by
 intro (bs : Th (List Int)) (p : Th Int) ⟨(a : Th Gst), (b : Th Gst), u⟩ K _ _ ho h
 obtain ⟨a, rfl⟩ := th_ex a; obtain ⟨b, rfl⟩ := th_ex b
 refine ⟨noAnn, noAnn, 20, ?_⟩
 cbv
 repeat' first | ((with_reducible intro _); cbv) | (with_reducible refine And.intro ?_ ?_)
 all_goals first | (refine retK h ?_; clear h; simp only [fin0]) | (with_reducible refine Ob.mk ?_; clear h) | (clear h)
 all_goals (try simp only [eta0, RT.bytes] at *)
 all_goals grind [gstLess]
theorem okGstsOk : SpecOk1 Tryz.prog 91 sGstsOk := spec1 tabOk (ss := [(95, sGstOk), (138, sGstLess), (41, sPlcOk)]) ⟨okGstOk, okAhead, okPlcOk, trivial⟩ rfl rfl <| by
 intro (bs : Th (List Int)) (p : Th Int) ⟨(m : Th PMap), (l : Th (List Gst)), u⟩ K _ _ ho h
 obtain ⟨m, rfl⟩ := th_ex m; obtain ⟨l, rfl⟩ := th_ex l
 have hl := okL (ho.2.1 _ (.head _))
 refine ⟨annL [(91, 2, ⟨Nat, [], fun σ k => σ.t 9 (vI fun _ => (k : Int)), fun _ k _ => k ≤ l.length ∧ allTo k (gstAt m l) = true, fun _ k _ => l.length - k⟩)], noAnn, 20, ?_⟩
 cbv
 repeat' first | ((with_reducible refine fun (k : Nat) => ?_); cbv) | ((with_reducible intro _); cbv) | (with_reducible refine And.intro ?_ ?_)
 all_goals try ((first | (with_reducible refine LoopIn.mk ((0 : Nat)) ?_ ?_) | (with_reducible refine LoopBack.mk ((k + 1 : Nat)) ?_ ?_ ?_)) )
 all_goals try ((with_reducible show matchSt _ _); cbv; (try simp only [and_true, true_and]))
 all_goals try (repeat' with_reducible refine And.intro ?_ ?_)
 all_goals first | (refine retK h ?_; clear h; simp only [fin0]) | (with_reducible refine Ob.mk ?_; clear h) | (clear h)
 all_goals (try simp only [eta0, RT.bytes] at *)
 all_goals grind [wrap_succ, wrap_id, gsts_bad1, gsts_bad2, gsts_long, gsts_all, gstsOk, gstAt, allTo_zero, allTo_succ]
theorem okSGstsOk : SpecOk1 Tryz.prog 127 sGstsOkS := spec1 tabOk (ss := [(132, sGstOk), (175, sGstLess)]) ⟨okSGstOk, okL8Less, trivial⟩ rfl rfl <| by
 intro (bs : Th (List Int)) (p : Th Int) ⟨(m : Th PMap), (l : Th (List Gst)), u⟩ K _ _ ho h
 obtain ⟨m, rfl⟩ := th_ex m; obtain ⟨l, rfl⟩ := th_ex l
 have hl := okL (ho.2.1 _ (.head _))
 refine ⟨annL [(127, 4, ⟨Nat, [], fun σ k => σ.t 5 (vI fun _ => (k : Int)), fun _ k _ => k ≤ l.length ∧ allTo k (gstAt m l) = true, fun _ k _ => l.length - k⟩)], noAnn, 20, ?_⟩
 cbv
 repeat' first | ((with_reducible refine fun (k : Nat) => ?_); cbv) | ((with_reducible intro _); cbv) | (with_reducible refine And.intro ?_ ?_)
 all_goals try ((first | (with_reducible refine LoopIn.mk ((0 : Nat)) ?_ ?_) | (with_reducible refine LoopBack.mk ((k + 1 : Nat)) ?_ ?_ ?_)) )
 all_goals try ((with_reducible show matchSt _ _); cbv; (try simp only [and_true, true_and]))
 all_goals try (repeat' with_reducible refine And.intro ?_ ?_)
 all_goals first | (refine retK h ?_; clear h; simp only [fin0]) | (with_reducible refine Ob.mk ?_; clear h) | (clear h)
 all_goals (try simp only [eta0, RT.bytes] at *)
 all_goals grind [wrap_succ, wrap_id, gsts_bad1, gsts_bad2, gsts_long, gsts_all, gstAt, allTo_zero, allTo_succ]
theorem okArbOk : SpecOk1 Tryz.prog 43 sArbOk := spec1 tabOk (ss := [(41, sPlcOk), (53, sIn)]) ⟨okPlcOk, okIn, trivial⟩ rfl rfl <| by
 intro (bs : Th (List Int)) (p : Th Int) ⟨(m : Th PMap), (t : Th Arb), (s : Th Int), u⟩ K _ _ ho h
 obtain ⟨m, rfl⟩ := th_ex m; obtain ⟨t, rfl⟩ := th_ex t; obtain ⟨s, rfl⟩ := th_ex s
 have hA := fun (hh : arbOk m t s = true) (k : Nat) => @arb_cell m t s k hh
 have hl := okL (ho.2.1 _ (.head _))
 refine ⟨annL [(43, 4, ⟨Nat, [], fun σ k => σ.t 36 (vI fun _ => (k : Int)), fun _ k _ => k ≤ t.servers.length ∧ arbHead m t s = true ∧ allTo k (arbAt t s) = true, fun _ k _ => t.servers.length - k⟩)], noAnn, 20, ?_⟩
 cbv
 repeat' first | ((with_reducible refine fun (k : Nat) => ?_); cbv) | ((with_reducible intro _); cbv) | (with_reducible refine And.intro ?_ ?_)
 all_goals try ((first | (with_reducible refine LoopIn.mk ((0 : Nat)) ?_ ?_) | (with_reducible refine LoopBack.mk ((k + 1 : Nat)) ?_ ?_ ?_)) )
 all_goals try ((with_reducible show matchSt _ _); cbv; (try simp only [and_true, true_and]))
 all_goals try (repeat' with_reducible refine And.intro ?_ ?_)
 all_goals first | (refine retK h ?_; clear h; simp only [fin0]) | (with_reducible refine Ob.mk ?_; clear h) | (clear h)
 all_goals (try simp only [eta0, RT.bytes] at *)
 all_goals grind [wrap_succ, wrap_id, arb_bad, arb_all, arbOk, arbHead, arbAt, allTo_zero, allTo_succ, inR]
theorem okSArbOk : SpecOk1 Tryz.prog 35 sArbOk := spec1 tabOk (ss := [(34, sPlcOk), (75, sIn)]) ⟨okSPlcOk, okL1In, trivial⟩ rfl rfl <| by
 intro (bs : Th (List Int)) (p : Th Int) ⟨(m : Th PMap), (t : Th Arb), (s : Th Int), u⟩ K _ _ ho h
 obtain ⟨m, rfl⟩ := th_ex m; obtain ⟨t, rfl⟩ := th_ex t; obtain ⟨s, rfl⟩ := th_ex s
 have hA := fun (hh : arbOk m t s = true) (k : Nat) => @arb_cell m t s k hh
 have hl := okL (ho.2.1 _ (.head _))
 refine ⟨annL [(35, 4, ⟨Nat, [], fun σ k => σ.t 7 (vI fun _ => (k : Int)), fun _ k _ => k ≤ t.servers.length ∧ arbHead m t s = true ∧ allTo k (arbAt t s) = true, fun _ k _ => t.servers.length - k⟩)], noAnn, 20, ?_⟩
 cbv
 repeat' first | ((with_reducible refine fun (k : Nat) => ?_); cbv) | ((with_reducible intro _); cbv) | (with_reducible refine And.intro ?_ ?_)
 all_goals try ((first | (with_reducible refine LoopIn.mk ((0 : Nat)) ?_ ?_) | (with_reducible refine LoopBack.mk ((k + 1 : Nat)) ?_ ?_ ?_)) )
 all_goals try ((with_reducible show matchSt _ _); cbv; (try simp only [and_true, true_and]))
 all_goals try (repeat' with_reducible refine And.intro ?_ ?_)
 all_goals first | (refine retK h ?_; clear h; simp only [fin0]) | (with_reducible refine Ob.mk ?_; clear h) | (clear h)
 all_goals (try simp only [eta0, RT.bytes] at *)
 all_goals grind (splits := 30) [wrap_succ, wrap_id, arb_bad, arb_at, arb_all, arbOk, arbHead, arbAt, allTo_zero, allTo_succ, inR]
theorem okArbServer : SpecOk1 Tryz.prog 109 sArbServer := spec1 tabOk (ss := [(53, sIn)]) ⟨okIn, trivial⟩ rfl rfl <| by
 intro (bs : Th (List Int)) (p : Th Int) ⟨(t : Th Arb), (c : Th Int), u⟩ K _ _ ho h
 obtain ⟨t, rfl⟩ := th_ex t; obtain ⟨c, rfl⟩ := th_ex c
 have hl := okL (ho.1 _ (.head _))
 refine ⟨noAnn, noAnn, 20, ?_⟩
 cbv
 repeat' first | ((with_reducible intro _); cbv) | (with_reducible refine And.intro ?_ ?_)
 all_goals first | (refine retK h ?_; clear h; simp only [fin0]) | (with_reducible refine Ob.mk ?_; clear h) | (clear h)
 all_goals (try simp only [eta0, RT.bytes] at *)
 all_goals grind [arbServer, inR, wrap_id]
theorem okSArbServer : SpecOk1 Tryz.prog 117 sArbServer := spec1 tabOk (ss := []) trivial rfl rfl <| by
 intro (bs : Th (List Int)) (p : Th Int) ⟨(t : Th Arb), (c : Th Int), u⟩ K _ _ ho h
 obtain ⟨t, rfl⟩ := th_ex t; obtain ⟨c, rfl⟩ := th_ex c
 have hl := okL (ho.1 _ (.head _))
 refine ⟨noAnn, noAnn, 20, ?_⟩
 cbv
 repeat' first | ((with_reducible intro _); cbv) | (with_reducible refine And.intro ?_ ?_)
 all_goals first | (refine retK h ?_; clear h; simp only [fin0]) | (with_reducible refine Ob.mk ?_; clear h) | (clear h)
 all_goals (try simp only [eta0, RT.bytes] at *)
 all_goals grind [arbServer, inR, wrap_id]
theorem okCllOk : SpecOk1 Tryz.prog 135 sCllOk := spec1 tabOk (ss := [(178, sWlkListOkI), (88, sHasCell), (53, sIn), (142, sPlcCell), (93, sPlcSide), (179, sPclListOk)]) ⟨okWlkListOk, okHasCell, okIn, okPlcCell, okPlcSide, okPclListOk, trivial⟩ rfl rfl <| by
 intro (bs : Th (List Int)) (p : Th Int) ⟨(m : Th PMap), (c : Th Cll), u⟩ K _ _ ho h
 obtain ⟨m, rfl⟩ := th_ex m; obtain ⟨c, rfl⟩ := th_ex c
 obtain ⟨hw, hou, hoi, hn, hi, _, _⟩ := okCll ho.2.1
 have hi := plcOk_iff (m := m)
 refine ⟨annL [(135, 4, ⟨Nat, [], fun σ k => (σ.t 50 (vI fun _ => (k : Int))), fun _ k _ => k ≤ c.wlks.length ∧ cllHead m c = true ∧ allTo k (wlkIn m c) = true, fun _ k _ => c.wlks.length - k⟩),
  (135, 10, ⟨Nat × Unit, [], fun σ q => (σ.t 62 (vI fun _ => (q.1 : Int))), fun _ q _ => q.1 ≤ 2 ∧ cllHead m c = true ∧ allTo c.wlks.length (wlkIn m c) = true ∧ allTo q.1 (cllSide m c) = true, fun _ q _ => 2 - q.1⟩),
  (135, 16, ⟨Nat, [], fun σ k => σ.t 118 (vI fun _ => (k : Int)), fun σ k _ => sideInv m c (σ.nat 62) k, fun σ k _ => (nth .pcls c.outs (σ.nat 62)).length - k⟩)], noAnn, 20, ?_⟩
 cbv
 repeat' first | ((with_reducible refine fun (k : Nat) => ?_); cbv) | ((with_reducible refine fun (q : Nat × Unit) => ?_); obtain ⟨s, _⟩ := q; cbv) | ((with_reducible intro _); cbv) | (with_reducible refine And.intro ?_ ?_)
 all_goals try ((first | (with_reducible refine LoopIn.mk ((0 : Nat)) ?_ ?_) | (with_reducible refine LoopIn.mk (((0, ()) : Nat × Unit)) ?_ ?_) | (with_reducible refine LoopBack.mk ((k + 1 : Nat)) ?_ ?_ ?_) | (with_reducible refine LoopBack.mk (((s + 1, ()) : Nat × Unit)) ?_ ?_ ?_)) )
 all_goals try ((with_reducible show matchSt _ _); cbv; (try simp only [and_true, true_and]))
 all_goals (try simp only [St.nat, St.int, Tr.get, Nat.reduceMod, Nat.reduceDiv, Nat.one_ne_zero, if_false, if_true, ↓reduceIte] at *)
 all_goals try (repeat' with_reducible refine And.intro ?_ ?_)
 all_goals first | (refine retK h ?_; clear h; simp only [fin0]) | (with_reducible refine Ob.mk ?_; clear h) | (clear h)
 all_goals (try simp only [eta0, RT.bytes] at *)
 all_goals grind [sideInv, inR, allTo_zero, allTo_succ, wlkIn, sideHead, pclDest, cllSide, cllHead, cllOk, cllOk_bad1, cllOk_bad2, cllSide_bad, wrap_succ, wrap_id]
end Go.Proofs.YtjdaiobeiimpfaaGreat
