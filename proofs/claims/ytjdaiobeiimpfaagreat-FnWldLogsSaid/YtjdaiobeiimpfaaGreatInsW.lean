/-
  Contracts: places, walkers.
-/
import Derived.Test.YtjdaiobeiimpfaaGreatTok
import Derived.Test.YtjdaiobeiimpfaaGreatM1
import Derived.Test.YtjdaiobeiimpfaaGreatM2
import Derived.Test.YtjdaiobeiimpfaaGreatS5
set_option linter.unusedVariables false
set_option linter.unusedSimpArgs false
set_option maxRecDepth 100000
set_option maxHeartbeats 8000000
namespace Go.Proofs.YtjdaiobeiimpfaaGreat
open Go.Sx Go.Proofs Go.Mo
noncomputable def sIn : Sx.Spec := ⟨false, true, [.int .i64, .int .i64, .int .i64], [], fun _ _ ⟨n, a, b, _⟩ => .ret (vB fun _ => inR (n ()) (a ()) (b ()), fun _ => 0)⟩
noncomputable def sPlcOk : Sx.Spec := ⟨false, true, [.map], [], fun _ _ ⟨m, _⟩ => .ret (vB fun _ => plcOk (m ()), fun _ => 0)⟩
noncomputable def sPlcCell : Sx.Spec := ⟨false, true, [.map, .int .i64], [], fun _ _ ⟨m, a, _⟩ => .ret (vI fun _ => plcCell (m ()) (a ()), fun _ => 0)⟩
noncomputable def sPlcSide : Sx.Spec := ⟨false, true, [.map, .int .i64, .int .i64], [], fun _ _ ⟨m, a, s, _⟩ => .ret (vI fun _ => plcSide (m ()) (a ()) (s ()), fun _ => 0)⟩
noncomputable def sPlcEdge : Sx.Spec := ⟨false, true, [.map, .int .i64, .int .i64], [], fun _ _ ⟨m, a, s, _⟩ => .ret (vB fun _ => plcEdge (m ()) (a ()) (s ()), fun _ => 0)⟩
noncomputable def sHasCell : Sx.Spec := ⟨false, true, [.map, .int .i64], [], fun _ _ ⟨m, a, _⟩ => .asrt (fun _ => -9223372036854775808 < (m ()).cells) (.ret (vB fun _ => decide (0 ≤ a () ∧ a () < (m ()).cells), fun _ => 0))⟩
noncomputable def sIsSide : Sx.Spec := ⟨false, true, [.int .i64], [], fun _ _ ⟨a, _⟩ => .ret (vB fun _ => decide (a () = 0 ∨ a () = 1), fun _ => 0)⟩
noncomputable def sToward : Sx.Spec := ⟨false, true, [.int .i64], [], fun _ _ ⟨a, _⟩ => .asrt (fun _ => a () = 0 ∨ a () = 1) (.ret (vI fun _ => 2 * a () - 1, fun _ => 0))⟩
noncomputable def sIsWalker : Sx.Spec := ⟨false, true, [.int .i64], [], fun _ _ ⟨a, _⟩ => .ret (vB fun _ => decide (1 ≤ a () ∧ a () ≤ 9), fun _ => 0)⟩
noncomputable def sWlkOk : Sx.Spec := ⟨false, true, [.map, .row .wlk], [], fun _ _ ⟨m, w, _⟩ => .ret (vB fun _ => wlkOk (m ()) (w ()), fun _ => 0)⟩
noncomputable def sRanged : Sx.Spec := ⟨false, true, [.row .wlk], [], fun _ _ ⟨w, _⟩ => .ret (vB fun _ => wlkRanged (w ()), fun _ => 0)⟩
noncomputable def sWlkListOkI : Sx.Spec := ⟨false, true, [.map, .list .wlk], [], fun _ _ ⟨m, l, _⟩ => .ret (vB fun _ => wlkAll (m ()) (l ()) && plcOk (m ()), fun _ => 0)⟩
noncomputable def sWlkListOkS : Sx.Spec := ⟨false, true, [.map, .list .wlk], [], fun _ _ ⟨m, l, _⟩ => .ret (vB fun _ => wlkAll (m ()) (l ()), fun _ => 0)⟩
theorem okIn : SpecOk1 Tryz.prog 53 sIn := spec1 tabOk (ss := []) trivial rfl rfl <| by
 intro (bs : Th (List Int)) (p : Th Int) ⟨(n : Th Int), (a : Th Int), (b : Th Int), u⟩ K _ _ _ h
 obtain ⟨n, rfl⟩ := th_ex n; obtain ⟨a, rfl⟩ := th_ex a; obtain ⟨b, rfl⟩ := th_ex b
 refine ⟨noAnn, noAnn, 20, ?_⟩
 cbv
 repeat' first | ((with_reducible intro _); cbv) | (with_reducible refine And.intro ?_ ?_)
 all_goals first | (refine retK h ?_; clear h; simp only [fin0]) | (with_reducible refine Ob.mk ?_; clear h) | (clear h)
 all_goals (try simp only [eta0, RT.bytes] at *)
 all_goals grind [inR]
theorem okL1In : SpecOk1 Tryz.prog 75 sIn := spec1 tabOk (ss := []) trivial rfl rfl <| by
 intro (bs : Th (List Int)) (p : Th Int) ⟨(n : Th Int), (a : Th Int), (b : Th Int), u⟩ K _ _ _ h
 obtain ⟨n, rfl⟩ := th_ex n; obtain ⟨a, rfl⟩ := th_ex a; obtain ⟨b, rfl⟩ := th_ex b
 refine ⟨noAnn, noAnn, 20, ?_⟩
 cbv
 repeat' first | ((with_reducible intro _); cbv) | (with_reducible refine And.intro ?_ ?_)
 all_goals first | (refine retK h ?_; clear h; simp only [fin0]) | (with_reducible refine Ob.mk ?_; clear h) | (clear h)
 all_goals (try simp only [eta0, RT.bytes] at *)
 all_goals grind [inR]
theorem okPlcOk : SpecOk1 Tryz.prog 41 sPlcOk := spec1 tabOk (ss := [(53, sIn)]) ⟨okIn, trivial⟩ rfl rfl <| by
 intro (bs : Th (List Int)) (p : Th Int) ⟨(m : Th PMap), u⟩ K _ _ _ h
 obtain ⟨m, rfl⟩ := th_ex m
 refine ⟨noAnn, noAnn, 20, ?_⟩
 cbv
 repeat' first | ((with_reducible intro _); cbv) | (with_reducible refine And.intro ?_ ?_)
 all_goals first | (refine retK h ?_; clear h; simp only [fin0]) | (with_reducible refine Ob.mk ?_; clear h) | (clear h)
 all_goals (try simp only [eta0, RT.bytes] at *)
 all_goals grind [inR, plcOk]
theorem okSPlcOk : SpecOk1 Tryz.prog 34 sPlcOk := spec1 tabOk (ss := [(75, sIn)]) ⟨okL1In, trivial⟩ rfl rfl <| by
 intro (bs : Th (List Int)) (p : Th Int) ⟨(m : Th PMap), u⟩ K _ _ _ h
 obtain ⟨m, rfl⟩ := th_ex m
 refine ⟨noAnn, noAnn, 20, ?_⟩
 cbv
 repeat' first | ((with_reducible intro _); cbv) | (with_reducible refine And.intro ?_ ?_)
 all_goals first | (refine retK h ?_; clear h; simp only [fin0]) | (with_reducible refine Ob.mk ?_; clear h) | (clear h)
 all_goals (try simp only [eta0, RT.bytes] at *)
 all_goals grind [inR, plcOk]
theorem okPlcCell : SpecOk1 Tryz.prog 142 sPlcCell := spec1 tabOk (ss := [(53, sIn), (41, sPlcOk)]) ⟨okIn, okPlcOk, trivial⟩ rfl rfl <| by
 intro (bs : Th (List Int)) (p : Th Int) ⟨(m : Th PMap), (a : Th Int), u⟩ K _ _ _ h
 obtain ⟨m, rfl⟩ := th_ex m; obtain ⟨a, rfl⟩ := th_ex a
 have hm := plc_mul (m := m)
 have hi := plcOk_iff (m := m)
 refine ⟨noAnn, noAnn, 20, ?_⟩
 cbv
 repeat' first | ((with_reducible intro _); cbv) | (with_reducible refine And.intro ?_ ?_)
 all_goals first | (refine retK h ?_; clear h; simp only [fin0]) | (with_reducible refine Ob.mk ?_; clear h) | (clear h)
 all_goals (try simp only [eta0, RT.bytes] at *)
 all_goals grind [plcCell, inR, wrap_id, quo_in]
theorem okSPlcCell : SpecOk1 Tryz.prog 172 sPlcCell := spec1 tabOk (ss := [(75, sIn), (34, sPlcOk)]) ⟨okL1In, okSPlcOk, trivial⟩ rfl rfl <| by
 intro (bs : Th (List Int)) (p : Th Int) ⟨(m : Th PMap), (a : Th Int), u⟩ K _ _ _ h
 obtain ⟨m, rfl⟩ := th_ex m; obtain ⟨a, rfl⟩ := th_ex a
 have hm := plc_mul (m := m)
 have hi := plcOk_iff (m := m)
 refine ⟨noAnn, noAnn, 20, ?_⟩
 cbv
 repeat' first | ((with_reducible intro _); cbv) | (with_reducible refine And.intro ?_ ?_)
 all_goals first | (refine retK h ?_; clear h; simp only [fin0]) | (with_reducible refine Ob.mk ?_; clear h) | (clear h)
 all_goals (try simp only [eta0, RT.bytes] at *)
 all_goals grind [plcCell, inR, wrap_id, quo_in]
theorem okHasCell : SpecOk1 Tryz.prog 88 sHasCell := spec1 tabOk (ss := [(53, sIn)]) ⟨okIn, trivial⟩ rfl rfl <| by
 intro (bs : Th (List Int)) (p : Th Int) ⟨(m : Th PMap), (a : Th Int), u⟩ K _ _ ho h
 obtain ⟨m, rfl⟩ := th_ex m; obtain ⟨a, rfl⟩ := th_ex a
 obtain ⟨hp, h⟩ := h
 have hp := hp.out
 have ho := okI (ho.1 _ (.head _))
 refine ⟨noAnn, noAnn, 20, ?_⟩
 cbv
 repeat' first | ((with_reducible intro _); cbv) | (with_reducible refine And.intro ?_ ?_)
 all_goals first | (refine retK h ?_; clear h; simp only [fin0]) | (with_reducible refine Ob.mk ?_; clear h) | (clear h)
 all_goals (try simp only [eta0, RT.bytes] at *)
 all_goals grind [inR, wrap_id]
theorem okIsSide : SpecOk1 Tryz.prog 137 sIsSide := spec1 tabOk (ss := []) trivial rfl rfl <| by
 intro (bs : Th (List Int)) (p : Th Int) ⟨(a : Th Int), u⟩ K _ _ _ h
 obtain ⟨a, rfl⟩ := th_ex a
 refine ⟨noAnn, noAnn, 20, ?_⟩
 cbv
 repeat' first | ((with_reducible intro _); cbv) | (with_reducible refine And.intro ?_ ?_)
 all_goals first | (refine retK h ?_; clear h; simp only [fin0]) | (with_reducible refine Ob.mk ?_; clear h) | (clear h)
 all_goals (try simp only [eta0, RT.bytes] at *)
 all_goals grind
theorem okToward : SpecOk1 Tryz.prog 139 sToward := spec1 tabOk (ss := []) trivial rfl rfl <| by
 intro (bs : Th (List Int)) (p : Th Int) ⟨(a : Th Int), u⟩ K _ _ _ h
 obtain ⟨a, rfl⟩ := th_ex a
 obtain ⟨hp, h⟩ := h
 have hp := hp.out
 refine ⟨noAnn, noAnn, 20, ?_⟩
 cbv
 repeat' first | ((with_reducible intro _); cbv) | (with_reducible refine And.intro ?_ ?_)
 all_goals first | (refine retK h ?_; clear h; simp only [fin0]) | (with_reducible refine Ob.mk ?_; clear h) | (clear h)
 all_goals (try simp only [eta0, RT.bytes] at *)
 all_goals grind [wrap_id]
theorem okIsWalker : SpecOk1 Tryz.prog 52 sIsWalker := spec1 tabOk (ss := [(53, sIn)]) ⟨okIn, trivial⟩ rfl rfl <| by
 intro (bs : Th (List Int)) (p : Th Int) ⟨(a : Th Int), u⟩ K _ _ _ h
 obtain ⟨a, rfl⟩ := th_ex a
 refine ⟨noAnn, noAnn, 20, ?_⟩
 cbv
 repeat' first | ((with_reducible intro _); cbv) | (with_reducible refine And.intro ?_ ?_)
 all_goals first | (refine retK h ?_; clear h; simp only [fin0]) | (with_reducible refine Ob.mk ?_; clear h) | (clear h)
 all_goals (try simp only [eta0, RT.bytes] at *)
 all_goals grind [inR]
theorem okPlcSide : SpecOk1 Tryz.prog 93 sPlcSide := spec1 tabOk (ss := [(41, sPlcOk), (88, sHasCell), (137, sIsSide), (139, sToward)]) ⟨okPlcOk, okHasCell, okIsSide, okToward, trivial⟩ rfl rfl <| by
 intro (bs : Th (List Int)) (p : Th Int) ⟨(m : Th PMap), (a : Th Int), (s : Th Int), u⟩ K _ _ _ h
 obtain ⟨m, rfl⟩ := th_ex m; obtain ⟨a, rfl⟩ := th_ex a; obtain ⟨s, rfl⟩ := th_ex s
 have hi := plcOk_iff (m := m)
 refine ⟨noAnn, noAnn, 20, ?_⟩
 cbv
 repeat' first | ((with_reducible intro _); cbv) | (with_reducible refine And.intro ?_ ?_)
 all_goals first | (refine retK h ?_; clear h; simp only [fin0]) | (with_reducible refine Ob.mk ?_; clear h) | (clear h)
 all_goals (try simp only [eta0, RT.bytes] at *)
 all_goals grind [plcSide, wrap_id]
theorem okSPlcSide : SpecOk1 Tryz.prog 129 sPlcSide := spec1 tabOk (ss := [(34, sPlcOk), (75, sIn)]) ⟨okSPlcOk, okL1In, trivial⟩ rfl rfl <| by
 intro (bs : Th (List Int)) (p : Th Int) ⟨(m : Th PMap), (a : Th Int), (s : Th Int), u⟩ K _ _ _ h
 obtain ⟨m, rfl⟩ := th_ex m; obtain ⟨a, rfl⟩ := th_ex a; obtain ⟨s, rfl⟩ := th_ex s
 have hi := plcOk_iff (m := m)
 refine ⟨noAnn, noAnn, 20, ?_⟩
 cbv
 repeat' first | ((with_reducible intro _); cbv) | (with_reducible refine And.intro ?_ ?_)
 all_goals first | (refine retK h ?_; clear h; simp only [fin0]) | (with_reducible refine Ob.mk ?_; clear h) | (clear h)
 all_goals (try simp only [eta0, RT.bytes] at *)
 all_goals grind [plcSide, wrap_id, inR]
theorem okPlcEdge : SpecOk1 Tryz.prog 143 sPlcEdge := spec1 tabOk (ss := [(142, sPlcCell), (93, sPlcSide), (139, sToward)]) ⟨okPlcCell, okPlcSide, okToward, trivial⟩ rfl rfl <| by
 intro (bs : Th (List Int)) (p : Th Int) ⟨(m : Th PMap), (a : Th Int), (s : Th Int), u⟩ K _ _ ho h
 obtain ⟨m, rfl⟩ := th_ex m; obtain ⟨a, rfl⟩ := th_ex a; obtain ⟨s, rfl⟩ := th_ex s
 have hb := okI (ho.2.1 _ (.head _))
 refine ⟨noAnn, noAnn, 20, ?_⟩
 have hs := @plcSide_ne m (plcCell m a) s
 have hc := @plcCell_ne m a
 have he := @edge_eq m a s
 have hi := plcOk_iff (m := m)
 have hm := plc_mul (m := m)
 cbv
 repeat' first | ((with_reducible intro _); cbv) | (with_reducible refine And.intro ?_ ?_)
 all_goals first | (refine retK h ?_; clear h; simp only [fin0]) | (with_reducible refine Ob.mk ?_; clear h) | (clear h)
 all_goals (try simp only [eta0, RT.bytes] at *)
 ·grind
 ·rename_i h1 h2
  have h1 : plcSide m (plcCell m a) s ≠ -1 := by simpa using h2
  have hw : IntKind.i64.wrap (a + (2 * s - 1)) = a + (2 * s - 1) := by grind [wrap_id]
  rw [hw]
  simp only [plcEdge, h1, ne_eq, not_false_eq_true, true_and, decide_eq_decide]
  exact he h1
 ·grind [plcEdge]
 ·grind [plcEdge]
theorem okSPlcEdge : SpecOk1 Tryz.prog 177 sPlcEdge := spec1 tabOk (ss := [(172, sPlcCell), (129, sPlcSide)]) ⟨okSPlcCell, okSPlcSide, trivial⟩ rfl rfl <| by
 intro (bs : Th (List Int)) (p : Th Int) ⟨(m : Th PMap), (a : Th Int), (s : Th Int), u⟩ K _ _ _ h
 obtain ⟨m, rfl⟩ := th_ex m; obtain ⟨a, rfl⟩ := th_ex a; obtain ⟨s, rfl⟩ := th_ex s
 refine ⟨noAnn, noAnn, 20, ?_⟩
 have hs := @plcSide_ne m (plcCell m a) s
 have hc := @plcCell_ne m a
 have hi := plcOk_iff (m := m)
 have hm := plc_mul (m := m)
 have hd := @plcCell_mul m a
 cbv
 repeat' first | ((with_reducible intro _); cbv) | (with_reducible refine And.intro ?_ ?_)
 all_goals first | (refine retK h ?_; clear h; simp only [fin0]) | (with_reducible refine Ob.mk ?_; clear h) | (clear h)
 all_goals (try simp only [eta0, RT.bytes] at *)
 all_goals grind [plcEdge, wrap_id]
theorem okRanged : SpecOk1 Tryz.prog 182 sRanged := spec1 tabOk (ss := [(53, sIn), (52, sIsWalker)]) ⟨okIn, okIsWalker, trivial⟩ rfl rfl <| by
 intro (bs : Th (List Int)) (p : Th Int) ⟨(w : Th Wlk), u⟩ K _ _ _ h
 obtain ⟨w, rfl⟩ := th_ex w
 refine ⟨noAnn, noAnn, 20, ?_⟩
 cbv
 repeat' first | ((with_reducible intro _); cbv) | (with_reducible refine And.intro ?_ ?_)
 all_goals first | (refine retK h ?_; clear h; simp only [fin0]) | (with_reducible refine Ob.mk ?_; clear h) | (clear h)
 all_goals (try simp only [eta0, RT.bytes] at *)
 all_goals grind [inR, wlkRanged]
theorem okWlkOk : SpecOk1 Tryz.prog 141 sWlkOk := spec1 tabOk (ss := [(142, sPlcCell), (182, sRanged)]) ⟨okPlcCell, okRanged, trivial⟩ rfl rfl <| by
 intro (bs : Th (List Int)) (p : Th Int) ⟨(m : Th PMap), (w : Th Wlk), u⟩ K _ _ _ h
 obtain ⟨m, rfl⟩ := th_ex m; obtain ⟨w, rfl⟩ := th_ex w
 refine ⟨noAnn, noAnn, 20, ?_⟩
 cbv
 repeat' first | ((with_reducible intro _); cbv) | (with_reducible refine And.intro ?_ ?_)
 all_goals first | (refine retK h ?_; clear h; simp only [fin0]) | (with_reducible refine Ob.mk ?_; clear h) | (clear h)
 all_goals (try simp only [eta0, RT.bytes] at *)
 all_goals grind [wlkOk, wlkRanged]
theorem okSWlkOk : SpecOk1 Tryz.prog 176 sWlkOk := spec1 tabOk (ss := [(172, sPlcCell), (75, sIn)]) ⟨okSPlcCell, okL1In, trivial⟩ rfl rfl <| by
 intro (bs : Th (List Int)) (p : Th Int) ⟨(m : Th PMap), (w : Th Wlk), u⟩ K _ _ _ h
 obtain ⟨m, rfl⟩ := th_ex m; obtain ⟨w, rfl⟩ := th_ex w
 refine ⟨noAnn, noAnn, 20, ?_⟩
 cbv
 repeat' first | ((with_reducible intro _); cbv) | (with_reducible refine And.intro ?_ ?_)
 all_goals first | (refine retK h ?_; clear h; simp only [fin0]) | (with_reducible refine Ob.mk ?_; clear h) | (clear h)
 all_goals (try simp only [eta0, RT.bytes] at *)
 all_goals grind [wlkOk, inR]
theorem okWlkListOk : SpecOk1 Tryz.prog 178 sWlkListOkI := spec1 tabOk (ss := [(141, sWlkOk), (41, sPlcOk)]) ⟨okWlkOk, okPlcOk, trivial⟩ rfl rfl <| by
 intro (bs : Th (List Int)) (p : Th Int) ⟨(m : Th PMap), (l : Th (List Wlk)), u⟩ K _ _ ho h
 obtain ⟨m, rfl⟩ := th_ex m; obtain ⟨l, rfl⟩ := th_ex l
 have hl := okL (ho.2.1 _ (.head _))
 refine ⟨annL [(178, 2, ⟨Nat, [], fun σ k => σ.t 9 (vI fun _ => (k : Int)), fun _ k _ => k ≤ l.length ∧ allTo k (wlkAt m l) = true, fun _ k _ => l.length - k⟩)], noAnn, 20, ?_⟩
 cbv
 repeat' first | ((with_reducible refine fun (k : Nat) => ?_); cbv) | ((with_reducible intro _); cbv) | (with_reducible refine And.intro ?_ ?_)
 all_goals try ((first | (with_reducible refine LoopIn.mk ((0 : Nat)) ?_ ?_) | (with_reducible refine LoopBack.mk ((k + 1 : Nat)) ?_ ?_ ?_)) )
 all_goals try ((with_reducible show matchSt _ _); cbv; (try simp only [and_true, true_and]))
 all_goals try (repeat' with_reducible refine And.intro ?_ ?_)
 all_goals first | (refine retK h ?_; clear h; simp only [fin0]) | (with_reducible refine Ob.mk ?_; clear h) | (clear h)
 all_goals (try simp only [eta0, RT.bytes] at *)
 all_goals grind [allTo_zero, allTo_succ, wlkAt, wlkAll, wrap_pred, wrap_succ, wlkAll_bad, wlkAll_bad2]
theorem okSWlkListOk : SpecOk1 Tryz.prog 171 sWlkListOkS := spec1 tabOk (ss := [(176, sWlkOk)]) ⟨okSWlkOk, trivial⟩ rfl rfl <| by
 intro (bs : Th (List Int)) (p : Th Int) ⟨(m : Th PMap), (l : Th (List Wlk)), u⟩ K _ _ ho h
 obtain ⟨m, rfl⟩ := th_ex m; obtain ⟨l, rfl⟩ := th_ex l
 have hl := okL (ho.2.1 _ (.head _))
 refine ⟨annL [(171, 2, ⟨Nat, [], fun σ k => σ.t 5 (vI fun _ => (k : Int)), fun _ k _ => k ≤ l.length ∧ allTo k (wlkAt m l) = true, fun _ k _ => l.length - k⟩)], noAnn, 20, ?_⟩
 cbv
 repeat' first | ((with_reducible refine fun (k : Nat) => ?_); cbv) | ((with_reducible intro _); cbv) | (with_reducible refine And.intro ?_ ?_)
 all_goals try ((first | (with_reducible refine LoopIn.mk ((0 : Nat)) ?_ ?_) | (with_reducible refine LoopBack.mk ((k + 1 : Nat)) ?_ ?_ ?_)) )
 all_goals try ((with_reducible show matchSt _ _); cbv; (try simp only [and_true, true_and]))
 all_goals try (repeat' with_reducible refine And.intro ?_ ?_)
 all_goals first | (refine retK h ?_; clear h; simp only [fin0]) | (with_reducible refine Ob.mk ?_; clear h) | (clear h)
 all_goals (try simp only [eta0, RT.bytes] at *)
 all_goals grind [allTo_zero, allTo_succ, wlkAt, wlkAll, wrap_pred, wrap_succ, wlkAll_bad, wlkAll_bad2]
noncomputable def sWlkOut : Sx.Spec := ⟨false, true, [.list .wlk, .int .i64], [[some .wlk]], fun _ _ ⟨l, i, _⟩ => .ret (vW .wlk fun _ => wlkOut (l ()) (i ()), fun _ => 0)⟩
noncomputable def sCloneW : Sx.Spec := ⟨false, true, [.list .wlk], [[some .wlk]], fun _ _ ⟨l, _⟩ => .ret (vW .wlk fun _ => l (), fun _ => 0)⟩
noncomputable def sPlace : Sx.Spec := ⟨false, true, [.list .wlk, .int .i64], [], fun _ _ ⟨l, i, _⟩ => .ret (vI fun _ => wlkPlace (l ()) (i ()), fun _ => 0)⟩
noncomputable def sWlkFind : Sx.Spec := ⟨false, true, [.list .wlk, .int .i64], [], fun _ _ ⟨l, i, _⟩ => .ret (.tup [oWlk fun _ => wlkFind (l ()) (i ()), vB fun _ => wlkHas (l ()) (i ())], fun _ => 0)⟩
theorem okWlkOut : SpecOk1 Tryz.prog 234 sWlkOut := spec1 tabOk (ss := []) trivial rfl rfl <| by
 intro (bs : Th (List Int)) (p : Th Int) ⟨(l : Th (List Wlk)), (i : Th Int), u⟩ K _ _ ho h
 obtain ⟨l, rfl⟩ := th_ex l; obtain ⟨i, rfl⟩ := th_ex i
 have hl := okB (ho.1 _ (.head _))
 have hz := wlkOutTo_len l i
 refine ⟨annL [(234, 3, ⟨Nat, [⟨.tmp 5 0, some 22, .wlk⟩], fun σ k => ((σ.t 10 (vI fun _ => (k : Int))).t 5 (vO 22 1)).row 22 1 .wlk (fun _ => wlkOutTo l i k), fun _ k _ => k ≤ l.length, fun _ k _ => l.length - k⟩)], noAnn, 20, ?_⟩
 cbv
 repeat' first | ((with_reducible refine fun (k : Nat) => ?_); cbv) | ((with_reducible intro _); cbv) | (with_reducible refine And.intro ?_ ?_)
 all_goals try ((first | (with_reducible refine LoopIn.mk ((0 : Nat)) ?_ ?_) | (with_reducible refine LoopBack.mk ((k + 1 : Nat)) ?_ ?_ ?_)) )
 all_goals try ((with_reducible show matchSt _ _); cbv; (try simp only [and_true, true_and]))
 all_goals try (repeat' with_reducible refine And.intro ?_ ?_)
 all_goals first | (refine retK h ?_; clear h; simp only [fin0]) | (with_reducible refine Ob.mk ?_; clear h) | (clear h)
 all_goals (try simp only [eta0, RT.bytes] at *)
 all_goals grind [wlkOutTo_zero, wlkOutTo_all, wlkOutTo_yes, wlkOutTo_no, wrap_succ]
theorem okSWlkOut : SpecOk1 Tryz.prog 183 sWlkOut := spec1 tabOk (ss := []) trivial rfl rfl <| by
 intro (bs : Th (List Int)) (p : Th Int) ⟨(l : Th (List Wlk)), (i : Th Int), u⟩ K _ _ ho h
 obtain ⟨l, rfl⟩ := th_ex l; obtain ⟨i, rfl⟩ := th_ex i
 have hl := okB (ho.1 _ (.head _))
 have hz := wlkOutTo_len l i
 refine ⟨annL [(183, 3, ⟨Nat, [⟨.tmp 5 0, some 8, .wlk⟩], fun σ k => (((σ.fg 8).t 6 (vI fun _ => (k : Int))).t 5 (vO 8 1)).row 8 1 .wlk (fun _ => wlkOutTo l i k), fun _ k _ => k ≤ l.length, fun _ k _ => l.length - k⟩)], noAnn, 20, ?_⟩
 cbv
 repeat' first | ((with_reducible refine fun (k : Nat) => ?_); cbv) | ((with_reducible intro _); cbv) | (with_reducible refine And.intro ?_ ?_)
 all_goals try ((first | (with_reducible refine LoopIn.mk ((0 : Nat)) ?_ ?_) | (with_reducible refine LoopBack.mk ((k + 1 : Nat)) ?_ ?_ ?_)) )
 all_goals try ((with_reducible show matchSt _ _); cbv; (try simp only [and_true, true_and]))
 all_goals try (repeat' with_reducible refine And.intro ?_ ?_)
 all_goals first | (refine retK h ?_; clear h; simp only [fin0]) | (with_reducible refine Ob.mk ?_; clear h) | (clear h)
 all_goals (try simp only [eta0, RT.bytes] at *)
 all_goals grind [wlkOutTo_zero, wlkOutTo_all, wlkOutTo_yes, wlkOutTo_no, wrap_succ]
theorem okCloneW : SpecOk1 Tryz.prog 191 sCloneW := spec1 tabOk (ss := []) trivial rfl rfl <| by
 intro (bs : Th (List Int)) (p : Th Int) ⟨(l : Th (List Wlk)), u⟩ K _ _ ho h
 obtain ⟨l, rfl⟩ := th_ex l
 have hl := okB (ho.1 _ (.head _))
 refine ⟨noAnn, noAnn, 20, ?_⟩
 cbv
 repeat' first | ((with_reducible intro _); cbv) | (with_reducible refine And.intro ?_ ?_)
 all_goals first | (refine retK h ?_; clear h; simp only [fin0]) | (with_reducible refine Ob.mk ?_; clear h) | (clear h)
 all_goals (try simp only [eta0, RT.bytes] at *)
 all_goals grind
theorem okL2Copy : SpecOk1 Tryz.prog 205 sCloneW := spec1 tabOk (ss := []) trivial rfl rfl <| by
 intro (bs : Th (List Int)) (p : Th Int) ⟨(l : Th (List Wlk)), u⟩ K _ _ ho h
 obtain ⟨l, rfl⟩ := th_ex l
 have hl := okB (ho.1 _ (.head _))
 refine ⟨noAnn, noAnn, 20, ?_⟩
 cbv
 repeat' first | ((with_reducible intro _); cbv) | (with_reducible refine And.intro ?_ ?_)
 all_goals first | (refine retK h ?_; clear h; simp only [fin0]) | (with_reducible refine Ob.mk ?_; clear h) | (clear h)
 all_goals (try simp only [eta0, RT.bytes] at *)
 all_goals grind
theorem okPlace : SpecOk1 Tryz.prog 225 sPlace := spec1 tabOk (ss := []) trivial rfl rfl <| by
 intro (bs : Th (List Int)) (p : Th Int) ⟨(l : Th (List Wlk)), (i : Th Int), u⟩ K _ _ ho h
 obtain ⟨l, rfl⟩ := th_ex l; obtain ⟨i, rfl⟩ := th_ex i
 have hl := okL (ho.1 _ (.head _))
 refine ⟨annL [(242, 2, ⟨Nat, [], fun σ k => σ.t 8 (vI fun _ => (k : Int)), fun _ k _ => k ≤ l.length ∧ allTo k (nid l i) = true, fun _ k _ => l.length - k⟩)], noAnn, 20, ?_⟩
 cbv
 repeat' first | ((with_reducible refine fun (k : Nat) => ?_); cbv) | ((with_reducible intro _); cbv) | (with_reducible refine And.intro ?_ ?_)
 all_goals try ((first | (with_reducible refine LoopIn.mk ((0 : Nat)) ?_ ?_) | (with_reducible refine LoopBack.mk ((k + 1 : Nat)) ?_ ?_ ?_)) )
 all_goals try ((with_reducible show matchSt _ _); cbv; (try simp only [and_true, true_and]))
 all_goals try (repeat' with_reducible refine And.intro ?_ ?_)
 all_goals first | (refine retK h ?_; clear h; simp only [fin0]) | (with_reducible refine Ob.mk ?_; clear h) | (clear h)
 all_goals (try simp only [eta0, RT.bytes] at *)
 all_goals grind [allTo_zero, allTo_succ, nid, isId, place_at, place_none, wrap_succ]
theorem okWlkFind : SpecOk1 Tryz.prog 196 sWlkFind := spec1 tabOk (ss := [(225, sPlace)]) ⟨okPlace, trivial⟩ rfl rfl <| by
 intro (bs : Th (List Int)) (p : Th Int) ⟨(l : Th (List Wlk)), (i : Th Int), u⟩ K _ _ ho h
 obtain ⟨l, rfl⟩ := th_ex l; obtain ⟨i, rfl⟩ := th_ex i
 have hp := place_lt l i
 refine ⟨noAnn, noAnn, 20, ?_⟩
 cbv
 repeat' first | ((with_reducible intro _); cbv) | (with_reducible refine And.intro ?_ ?_)
 all_goals first | (refine retK h ?_; clear h; simp only [fin0]) | (with_reducible refine Ob.mk ?_; clear h) | (clear h)
 all_goals (try simp only [eta0, RT.bytes] at *)
 all_goals grind [wlkFind, wlkHas]
theorem okSWlkFind : SpecOk1 Tryz.prog 201 sWlkFind := spec1 tabOk (ss := []) trivial rfl rfl <| by
 intro (bs : Th (List Int)) (p : Th Int) ⟨(l : Th (List Wlk)), (i : Th Int), u⟩ K _ _ ho h
 obtain ⟨l, rfl⟩ := th_ex l; obtain ⟨i, rfl⟩ := th_ex i
 have hl := okL (ho.1 _ (.head _))
 refine ⟨annL [(201, 2, ⟨Nat, [], fun σ k => σ.t 6 (vI fun _ => (k : Int)), fun _ k _ => k ≤ l.length ∧ allTo k (nid l i) = true, fun _ k _ => l.length - k⟩)], noAnn, 20, ?_⟩
 cbv
 repeat' first | ((with_reducible refine fun (k : Nat) => ?_); cbv) | ((with_reducible intro _); cbv) | (with_reducible refine And.intro ?_ ?_)
 all_goals try ((first | (with_reducible refine LoopIn.mk ((0 : Nat)) ?_ ?_) | (with_reducible refine LoopBack.mk ((k + 1 : Nat)) ?_ ?_ ?_)) )
 all_goals try ((with_reducible show matchSt _ _); cbv; (try simp only [and_true, true_and]))
 all_goals try (repeat' with_reducible refine And.intro ?_ ?_)
 all_goals first | (refine retK h ?_; clear h; simp only [fin0]) | (with_reducible refine Ob.mk ?_; clear h) | (clear h)
 all_goals (try simp only [eta0, RT.bytes] at *)
 all_goals grind [allTo_zero, allTo_succ, nid, isId, place_at, place_none, wrap_succ, wlkFind, wlkHas]
noncomputable def sOrdOk : Sx.Spec := ⟨false, true, [.ord], [], fun _ _ ⟨o, _⟩ => .ret (vB fun _ => ordOk (o ()), fun _ => 0)⟩
noncomputable def sPclFormed : Sx.Spec := ⟨false, true, [.row .pcl], [], fun _ _ ⟨o, _⟩ => .ret (vB fun _ => pclFormed (o ()), fun _ => 0)⟩
noncomputable def sPclOk : Sx.Spec := ⟨false, true, [.map, .row .pcl], [], fun _ _ ⟨m, o, _⟩ => .ret (vB fun _ => pclOk (m ()) (o ()), fun _ => 0)⟩
noncomputable def sPclListOk : Sx.Spec := ⟨false, true, [.map, .list .pcl, .int .i64], [], fun _ _ ⟨m, l, n, _⟩ => .ret (vB fun _ => pclListOk (m ()) (l ()) (n ()), fun _ => 0)⟩
noncomputable def sPclFrom : Sx.Spec := ⟨false, true, [.list .pcl, .int .i64], [[some .pcl]], fun _ _ ⟨l, n, _⟩ => .ret (vW .pcl fun _ => pclFrom (l ()) (n ()), fun _ => 0)⟩
noncomputable def sCloneP : Sx.Spec := ⟨false, true, [.list .pcl], [[some .pcl]], fun _ _ ⟨l, _⟩ => .ret (vW .pcl fun _ => l (), fun _ => 0)⟩
theorem okOrdOk : SpecOk1 Tryz.prog 89 sOrdOk := spec1 tabOk (ss := [(53, sIn), (52, sIsWalker), (137, sIsSide)]) ⟨okIn, okIsWalker, okIsSide, trivial⟩ rfl rfl <| by
 intro (bs : Th (List Int)) (p : Th Int) ⟨(o : Th Sx.Ord), u⟩ K _ _ ho h
 obtain ⟨o, rfl⟩ := th_ex o
 refine ⟨noAnn, noAnn, 20, ?_⟩
 cbv
 repeat' first | ((with_reducible intro _); cbv) | (with_reducible refine And.intro ?_ ?_)
 all_goals first | (refine retK h ?_; clear h; simp only [fin0]) | (with_reducible refine Ob.mk ?_; clear h) | (clear h)
 all_goals (try simp only [eta0, RT.bytes] at *)
 all_goals grind [inR, ordOk]
theorem okSOrdOk : SpecOk1 Tryz.prog 116 sOrdOk := spec1 tabOk (ss := [(75, sIn)]) ⟨okL1In, trivial⟩ rfl rfl <| by
 intro (bs : Th (List Int)) (p : Th Int) ⟨(o : Th Sx.Ord), u⟩ K _ _ ho h
 obtain ⟨o, rfl⟩ := th_ex o
 refine ⟨noAnn, noAnn, 20, ?_⟩
 cbv
 repeat' first | ((with_reducible intro _); cbv) | (with_reducible refine And.intro ?_ ?_)
 all_goals first | (refine retK h ?_; clear h; simp only [fin0]) | (with_reducible refine Ob.mk ?_; clear h) | (clear h)
 all_goals (try simp only [eta0, RT.bytes] at *)
 all_goals grind [inR, ordOk]
theorem okPclFormed : SpecOk1 Tryz.prog 140 sPclFormed := spec1 tabOk (ss := [(53, sIn)]) ⟨okIn, trivial⟩ rfl rfl <| by
 intro (bs : Th (List Int)) (p : Th Int) ⟨(o : Th Pcl), u⟩ K _ _ ho h
 obtain ⟨o, rfl⟩ := th_ex o
 refine ⟨noAnn, noAnn, 20, ?_⟩
 cbv
 repeat' first | ((with_reducible intro _); cbv) | (with_reducible refine And.intro ?_ ?_)
 all_goals first | (refine retK h ?_; clear h; simp only [fin0]) | (with_reducible refine Ob.mk ?_; clear h) | (clear h)
 all_goals (try simp only [eta0, RT.bytes] at *)
 all_goals grind [inR, pclFormed, zeroW]
theorem okPclOk : SpecOk1 Tryz.prog 94 sPclOk := spec1 tabOk (ss := [(41, sPlcOk), (140, sPclFormed), (141, sWlkOk)]) ⟨okPlcOk, okPclFormed, okWlkOk, trivial⟩ rfl rfl <| by
 intro (bs : Th (List Int)) (p : Th Int) ⟨(m : Th PMap), (o : Th Pcl), u⟩ K _ _ ho h
 obtain ⟨m, rfl⟩ := th_ex m; obtain ⟨o, rfl⟩ := th_ex o
 refine ⟨noAnn, noAnn, 20, ?_⟩
 cbv
 repeat' first | ((with_reducible intro _); cbv) | (with_reducible refine And.intro ?_ ?_)
 all_goals first | (refine retK h ?_; clear h; simp only [fin0]) | (with_reducible refine Ob.mk ?_; clear h) | (clear h)
 all_goals (try simp only [eta0, RT.bytes] at *)
 all_goals grind [pclFormed, pclOk]
theorem okSPclOk : SpecOk1 Tryz.prog 131 sPclOk := spec1 tabOk (ss := [(34, sPlcOk), (75, sIn), (176, sWlkOk)]) ⟨okSPlcOk, okL1In, okSWlkOk, trivial⟩ rfl rfl <| by
 intro (bs : Th (List Int)) (p : Th Int) ⟨(m : Th PMap), (o : Th Pcl), u⟩ K _ _ ho h
 obtain ⟨m, rfl⟩ := th_ex m; obtain ⟨o, rfl⟩ := th_ex o
 refine ⟨noAnn, noAnn, 20, ?_⟩
 cbv
 repeat' first | ((with_reducible intro _); cbv) | (with_reducible refine And.intro ?_ ?_)
 all_goals first | (refine retK h ?_; clear h; simp only [fin0]) | (with_reducible refine Ob.mk ?_; clear h) | (clear h)
 all_goals (try simp only [eta0, RT.bytes] at *)
 all_goals grind [inR, pclOk, zeroW]
theorem okPclListOk : SpecOk1 Tryz.prog 179 sPclListOk := spec1 tabOk (ss := [(41, sPlcOk), (53, sIn), (94, sPclOk)]) ⟨okPlcOk, okIn, okPclOk, trivial⟩ rfl rfl <| by
 intro (bs : Th (List Int)) (p : Th Int) ⟨(m : Th PMap), (l : Th (List Pcl)), (n : Th Int), u⟩ K _ _ ho h
 obtain ⟨m, rfl⟩ := th_ex m; obtain ⟨l, rfl⟩ := th_ex l; obtain ⟨n, rfl⟩ := th_ex n
 have hl := okL (ho.2.1 _ (.head _))
 refine ⟨annL [(179, 4, ⟨Nat, [], fun σ k => σ.t 25 (vI fun _ => (k : Int)), fun _ k _ => k ≤ l.length ∧ allTo k (pclAt m l n) = true, fun _ k _ => l.length - k⟩)], noAnn, 20, ?_⟩
 cbv
 repeat' first | ((with_reducible refine fun (k : Nat) => ?_); cbv) | ((with_reducible intro _); cbv) | (with_reducible refine And.intro ?_ ?_)
 all_goals try ((first | (with_reducible refine LoopIn.mk ((0 : Nat)) ?_ ?_) | (with_reducible refine LoopBack.mk ((k + 1 : Nat)) ?_ ?_ ?_)) )
 all_goals try ((with_reducible show matchSt _ _); cbv; (try simp only [and_true, true_and]))
 all_goals try (repeat' with_reducible refine And.intro ?_ ?_)
 all_goals first | (refine retK h ?_; clear h; simp only [fin0]) | (with_reducible refine Ob.mk ?_; clear h) | (clear h)
 all_goals (try simp only [eta0, RT.bytes] at *)
 all_goals grind [inR, allTo_zero, allTo_succ, pclAt, pclListOk, pclListOk_bad, pclListOk_bad2, wrap_succ, wrap_id]
theorem okSPclListOk : SpecOk1 Tryz.prog 206 sPclListOk := spec1 tabOk (ss := [(34, sPlcOk), (75, sIn), (131, sPclOk)]) ⟨okSPlcOk, okL1In, okSPclOk, trivial⟩ rfl rfl <| by
 intro (bs : Th (List Int)) (p : Th Int) ⟨(m : Th PMap), (l : Th (List Pcl)), (n : Th Int), u⟩ K _ _ ho h
 obtain ⟨m, rfl⟩ := th_ex m; obtain ⟨l, rfl⟩ := th_ex l; obtain ⟨n, rfl⟩ := th_ex n
 have hl := okL (ho.2.1 _ (.head _))
 refine ⟨annL [(206, 4, ⟨Nat, [], fun σ k => σ.t 7 (vI fun _ => (k : Int)), fun _ k _ => k ≤ l.length ∧ allTo k (pclAt m l n) = true, fun _ k _ => l.length - k⟩)], noAnn, 20, ?_⟩
 cbv
 repeat' first | ((with_reducible refine fun (k : Nat) => ?_); cbv) | ((with_reducible intro _); cbv) | (with_reducible refine And.intro ?_ ?_)
 all_goals try ((first | (with_reducible refine LoopIn.mk ((0 : Nat)) ?_ ?_) | (with_reducible refine LoopBack.mk ((k + 1 : Nat)) ?_ ?_ ?_)) )
 all_goals try ((with_reducible show matchSt _ _); cbv; (try simp only [and_true, true_and]))
 all_goals try (repeat' with_reducible refine And.intro ?_ ?_)
 all_goals first | (refine retK h ?_; clear h; simp only [fin0]) | (with_reducible refine Ob.mk ?_; clear h) | (clear h)
 all_goals (try simp only [eta0, RT.bytes] at *)
 all_goals grind [inR, allTo_zero, allTo_succ, pclAt, pclListOk, pclListOk_bad, pclListOk_bad2, wrap_succ, wrap_id]
theorem okPclFrom : SpecOk1 Tryz.prog 237 sPclFrom := spec1 tabOk (ss := []) trivial rfl rfl <| by
 intro (bs : Th (List Int)) (p : Th Int) ⟨(l : Th (List Pcl)), (i : Th Int), u⟩ K _ _ ho h
 obtain ⟨l, rfl⟩ := th_ex l; obtain ⟨i, rfl⟩ := th_ex i
 have hl := okB (ho.1 _ (.head _))
 have hz := pclFromTo_len l i
 refine ⟨annL [(237, 3, ⟨Nat, [⟨.tmp 5 0, some 22, .pcl⟩], fun σ k => ((σ.t 10 (vI fun _ => (k : Int))).t 5 (vO 22 1)).row 22 1 .pcl (fun _ => pclFromTo l i k), fun _ k _ => k ≤ l.length, fun _ k _ => l.length - k⟩)], noAnn, 20, ?_⟩
 cbv
 repeat' first | ((with_reducible refine fun (k : Nat) => ?_); cbv) | ((with_reducible intro _); cbv) | (with_reducible refine And.intro ?_ ?_)
 all_goals try ((first | (with_reducible refine LoopIn.mk ((0 : Nat)) ?_ ?_) | (with_reducible refine LoopBack.mk ((k + 1 : Nat)) ?_ ?_ ?_)) )
 all_goals try ((with_reducible show matchSt _ _); cbv; (try simp only [and_true, true_and]))
 all_goals try (repeat' with_reducible refine And.intro ?_ ?_)
 all_goals first | (refine retK h ?_; clear h; simp only [fin0]) | (with_reducible refine Ob.mk ?_; clear h) | (clear h)
 all_goals (try simp only [eta0, RT.bytes] at *)
 all_goals grind [pclFromTo_zero, pclFromTo_all, pclFromTo_yes, pclFromTo_no, wrap_succ]
theorem okSPclFrom : SpecOk1 Tryz.prog 232 sPclFrom := spec1 tabOk (ss := []) trivial rfl rfl <| by
 intro (bs : Th (List Int)) (p : Th Int) ⟨(l : Th (List Pcl)), (i : Th Int), u⟩ K _ _ ho h
 obtain ⟨l, rfl⟩ := th_ex l; obtain ⟨i, rfl⟩ := th_ex i
 have hl := okB (ho.1 _ (.head _))
 have hz := pclFromTo_len l i
 refine ⟨annL [(232, 3, ⟨Nat, [⟨.tmp 5 0, some 8, .pcl⟩], fun σ k => (((σ.fg 8).t 6 (vI fun _ => (k : Int))).t 5 (vO 8 1)).row 8 1 .pcl (fun _ => pclFromTo l i k), fun _ k _ => k ≤ l.length, fun _ k _ => l.length - k⟩)], noAnn, 20, ?_⟩
 cbv
 repeat' first | ((with_reducible refine fun (k : Nat) => ?_); cbv) | ((with_reducible intro _); cbv) | (with_reducible refine And.intro ?_ ?_)
 all_goals try ((first | (with_reducible refine LoopIn.mk ((0 : Nat)) ?_ ?_) | (with_reducible refine LoopBack.mk ((k + 1 : Nat)) ?_ ?_ ?_)) )
 all_goals try ((with_reducible show matchSt _ _); cbv; (try simp only [and_true, true_and]))
 all_goals try (repeat' with_reducible refine And.intro ?_ ?_)
 all_goals first | (refine retK h ?_; clear h; simp only [fin0]) | (with_reducible refine Ob.mk ?_; clear h) | (clear h)
 all_goals (try simp only [eta0, RT.bytes] at *)
 all_goals grind [pclFromTo_zero, pclFromTo_all, pclFromTo_yes, pclFromTo_no, wrap_succ]
theorem okCloneP : SpecOk1 Tryz.prog 192 sCloneP := spec1 tabOk (ss := []) trivial rfl rfl <| by
 intro (bs : Th (List Int)) (p : Th Int) ⟨(l : Th (List Pcl)), u⟩ K _ _ ho h
 obtain ⟨l, rfl⟩ := th_ex l
 have hl := okB (ho.1 _ (.head _))
 refine ⟨noAnn, noAnn, 20, ?_⟩
 cbv
 repeat' first | ((with_reducible intro _); cbv) | (with_reducible refine And.intro ?_ ?_)
 all_goals first | (refine retK h ?_; clear h; simp only [fin0]) | (with_reducible refine Ob.mk ?_; clear h) | (clear h)
 all_goals (try simp only [eta0, RT.bytes] at *)
 all_goals grind
noncomputable def sCloneC : Sx.Spec := ⟨false, true, [.row .cll], [nCll], fun _ _ ⟨c, _⟩ => .ret (oCll c, fun _ => 0)⟩
noncomputable def sCllOk : Sx.Spec := ⟨false, true, [.map, .row .cll], [], fun _ _ ⟨m, c, _⟩ => .ret (vB fun _ => cllOk (m ()) (c ()), fun _ => 0)⟩
noncomputable def sL5Side : Sx.Spec := ⟨false, true, [.map, .row .cll, .int .i64], [], fun _ _ ⟨m, c, s, _⟩ => .asrt (fun _ => 0 ≤ s () ∧ s () < (c ()).outs.length ∧ s () < (c ()).next.length ∧ s () < (c ()).ins.length) (.ret (vB fun _ => cllSide (m ()) (c ()) (s ()).toNat, fun _ => 0))⟩
theorem okCloneC : SpecOk1 Tryz.prog 154 sCloneC := spec1 tabOk (ss := [(191, sCloneW), (192, sCloneP)]) ⟨okCloneW, okCloneP, trivial⟩ rfl rfl <| by
 intro (bs : Th (List Int)) (p : Th Int) ⟨(c : Th Cll), u⟩ K _ _ ho h
 obtain ⟨c, rfl⟩ := th_ex c
 obtain ⟨hw, hou, hoi, hn, hi, _, _⟩ := okCll ho.1
 have hz := pre_len c.outs
 have hs := fun k => @pre_succ .pcls c.outs k
 refine ⟨annL [(154, 3, ⟨Nat, [⟨.cell 4 3, some 33, .pcls⟩], fun σ k => ((σ.t 23 (vI fun _ => (k : Int))).cellC 4 3 (.own 33 1)).row 33 1 .pcls (fun _ => pre c.outs k), fun _ k _ => k ≤ c.outs.length, fun _ k _ => c.outs.length - k⟩)], noAnn, 20, ?_⟩
 cbv
 repeat' first | ((with_reducible refine fun (k : Nat) => ?_); cbv) | ((with_reducible intro _); cbv) | (with_reducible refine And.intro ?_ ?_)
 all_goals try ((first | (with_reducible refine LoopIn.mk ((0 : Nat)) ?_ ?_) | (with_reducible refine LoopBack.mk ((k + 1 : Nat)) ?_ ?_ ?_)) )
 all_goals try ((with_reducible show matchSt _ _); cbv; (try simp only [and_true, true_and]))
 all_goals try (repeat' with_reducible refine And.intro ?_ ?_)
 all_goals first | (refine retK h ?_; clear h; simp only [fin0]) | (with_reducible refine Ob.mk ?_; clear h) | (clear h)
 all_goals (try simp only [eta0, RT.bytes] at *)
 all_goals grind [pre_zero, pre_all, wrap_succ]
theorem okL5Copy : SpecOk1 Tryz.prog 170 sCloneC := spec1 tabOk (ss := [(205, sCloneW)]) ⟨okL2Copy, trivial⟩ rfl rfl <| by
 intro (bs : Th (List Int)) (p : Th Int) ⟨(c : Th Cll), u⟩ K _ _ ho h
 obtain ⟨c, rfl⟩ := th_ex c
 obtain ⟨hw, hou, hoi, hn, hi, _, _⟩ := okCll ho.1
 have hz := pre_len c.outs
 have hs := fun k => @pre_succ .pcls c.outs k
 refine ⟨annL [(170, 4, ⟨Nat, [⟨.tmp 3 0, some 10, .pcls⟩], fun σ k => (((σ.fg 10).t 4 (vI fun _ => (k : Int))).t 3 (vO 10 1)).row 10 1 .pcls (fun _ => pre c.outs k), fun _ k _ => k ≤ c.outs.length, fun _ k _ => c.outs.length - k⟩)], noAnn, 20, ?_⟩
 cbv
 repeat' first | ((with_reducible refine fun (k : Nat) => ?_); cbv) | ((with_reducible intro _); cbv) | (with_reducible refine And.intro ?_ ?_)
 all_goals try ((first | (with_reducible refine LoopIn.mk ((0 : Nat)) ?_ ?_) | (with_reducible refine LoopBack.mk ((k + 1 : Nat)) ?_ ?_ ?_)) )
 all_goals try ((with_reducible show matchSt _ _); cbv; (try simp only [and_true, true_and]))
 all_goals try (repeat' with_reducible refine And.intro ?_ ?_)
 all_goals first | (refine retK h ?_; clear h; simp only [fin0]) | (with_reducible refine Ob.mk ?_; clear h) | (clear h)
 all_goals (try simp only [eta0, RT.bytes] at *)
 all_goals grind [pre_zero, pre_all, wrap_succ]
theorem okL5Side : SpecOk1 Tryz.prog 173 sL5Side := spec1 tabOk (ss := [(129, sPlcSide), (206, sPclListOk), (75, sIn), (172, sPlcCell)]) ⟨okSPlcSide, okSPclListOk, okL1In, okSPlcCell, trivial⟩ rfl rfl <| by
 intro (bs : Th (List Int)) (p : Th Int) ⟨(m : Th PMap), (c : Th Cll), (i : Th Int), u⟩ K _ _ ho h
 obtain ⟨m, rfl⟩ := th_ex m; obtain ⟨c, rfl⟩ := th_ex c; obtain ⟨i, rfl⟩ := th_ex i
 obtain ⟨hw, hou, hoi, hn, hi, _, _⟩ := okCll ho.2.1
 obtain ⟨hpre, h⟩ := h
 have hpre := hpre.out
 simp only at hpre
 obtain ⟨s, rfl⟩ : ∃ s : Nat, i = (s : Int) := ⟨i.toNat, (Int.toNat_of_nonneg hpre.1).symm⟩
 simp only [Int.ofNat_lt] at hpre
 refine ⟨annL [(173, 7, ⟨Nat, [], fun σ k => (σ.t 8 (vI fun _ => (k : Int))), fun _ k _ => k ≤ (nth .pcls c.outs s).length ∧ sideHead m c s = true ∧ allTo k (pclDest m (plcSide m c.cell s) (nth .pcls c.outs s)) = true, fun _ k _ => (nth .pcls c.outs s).length - k⟩)], noAnn, 20, ?_⟩
 cbv
 repeat' first | ((with_reducible refine fun (k : Nat) => ?_); cbv) | ((with_reducible intro _); cbv) | (with_reducible refine And.intro ?_ ?_)
 all_goals try ((first | (with_reducible refine LoopIn.mk ((0 : Nat)) ?_ ?_) | (with_reducible refine LoopBack.mk ((k + 1 : Nat)) ?_ ?_ ?_)) )
 all_goals try ((with_reducible show matchSt _ _); cbv; (try simp only [and_true, true_and]))
 all_goals try (repeat' with_reducible refine And.intro ?_ ?_)
 all_goals first | (refine retK h ?_; clear h; simp only [fin0]) | (with_reducible refine Ob.mk ?_; clear h) | (clear h)
 all_goals (try simp only [eta0, RT.bytes] at *)
 all_goals grind [inR, allTo_zero, allTo_succ, sideHead, cllSide, pclDest, cllSide_bad, cllSide_empty, wrap_succ]
end Go.Proofs.YtjdaiobeiimpfaaGreat
namespace Go.Mo
open Go.Sx
def same (t : RT) (a b : List t.ty) (k : Nat) : Prop := ∀ i, i < k → nth t a i = nth t b i
theorem same_zero (t : RT) (a b : List t.ty) : same t a b 0 := fun i hi => by omega
theorem same_succ {t : RT} {a b : List t.ty} {k : Nat} (h : same t a b k) (hk : nth t a k = nth t b k) : same t a b (k + 1) := fun i hi => by
 rcases Nat.lt_or_ge i k with h1 | h1
 ·exact h i h1
 ·have : i = k := by omega
  subst this
  exact hk
theorem same_all {t : RT} {a b : List t.ty} {k : Nat} (h : same t a b k) (hl : a.length = b.length) (hk : k = a.length) : a = b := by
 refine List.ext_getElem hl fun i h1 h2 => ?_
 rw [← nth_lt t a i h1, ← nth_lt t b i h2]
 exact h i (by omega)
theorem wlk_ext {a b : Wlk} : a = b ↔ a.id = b.id ∧ a.pos = b.pos ∧ a.coins = b.coins ∧ a.seq = b.seq ∧ a.last = b.last := by
 cases a; cases b; simp
theorem ord_ext {a b : Ord} : a = b ↔ a.who = b.who ∧ a.seq = b.seq ∧ a.kind = b.kind ∧ a.dest = b.dest ∧ a.n = b.n := by
 cases a; cases b; simp
theorem pcl_ext {a b : Pcl} : a = b ↔ a.n = b.n ∧ a.kind = b.kind ∧ a.wlk = b.wlk ∧ a.coins = b.coins := by
 cases a; cases b; simp
theorem rec_ext {a b : Rec} : a = b ↔ a.kind = b.kind ∧ a.ord = b.ord ∧ a.side = b.side ∧ a.pcl = b.pcl ∧ a.n = b.n := by
 cases a; cases b; simp
theorem cll_ext {a b : Cll} : a = b ↔ a.cell = b.cell ∧ a.wlks = b.wlks ∧ a.ground = b.ground ∧ a.outs = b.outs ∧ a.next = b.next ∧ a.ins = b.ins := by
 cases a; cases b; simp
end Go.Mo
namespace Go.Proofs.YtjdaiobeiimpfaaGreat
open Go.Sx Go.Proofs Go.Mo
noncomputable def sIsW : Sx.Spec := ⟨false, true, [.list .wlk, .list .wlk], [], fun _ _ ⟨a, b, _⟩ => .ret (vB fun _ => decide (a () = b ()), fun _ => 0)⟩
noncomputable def sIsI : Sx.Spec := ⟨false, true, [.list .int, .list .int], [], fun _ _ ⟨a, b, _⟩ => .ret (vB fun _ => decide (a () = b ()), fun _ => 0)⟩
noncomputable def sIsP : Sx.Spec := ⟨false, true, [.list .pcl, .list .pcl], [], fun _ _ ⟨a, b, _⟩ => .ret (vB fun _ => decide (a () = b ()), fun _ => 0)⟩
noncomputable def sIsR : Sx.Spec := ⟨false, true, [.list .rcd, .list .rcd], [], fun _ _ ⟨a, b, _⟩ => .ret (vB fun _ => decide (a () = b ()), fun _ => 0)⟩
noncomputable def sIsC : Sx.Spec := ⟨false, true, [.row .cll, .row .cll], [], fun _ _ ⟨a, b, _⟩ => .ret (vB fun _ => decide (a () = b ()), fun _ => 0)⟩
theorem okIsList : SpecOk1 Tryz.prog 133 sIsW := spec1 tabOk (ss := []) trivial rfl rfl <| by
 intro (bs : Th (List Int)) (p : Th Int) ⟨(a : Th (List Wlk)), (b : Th (List Wlk)), u⟩ K _ _ ho h
 obtain ⟨a, rfl⟩ := th_ex a; obtain ⟨b, rfl⟩ := th_ex b
 have hl := okL (ho.1 _ (.head _))
 refine ⟨annL [(133, 4, ⟨Nat, [], fun σ k => σ.t 5 (vI fun _ => (k : Int)), fun _ k _ => k ≤ a.length ∧ a.length = b.length ∧ same .wlk a b k, fun _ k _ => a.length - k⟩)], noAnn, 20, ?_⟩
 cbv
 repeat' first | ((with_reducible refine fun (k : Nat) => ?_); cbv) | ((with_reducible intro _); cbv) | (with_reducible refine And.intro ?_ ?_)
 all_goals try ((first | (with_reducible refine LoopIn.mk ((0 : Nat)) ?_ ?_) | (with_reducible refine LoopBack.mk ((k + 1 : Nat)) ?_ ?_ ?_)) )
 all_goals try ((with_reducible show matchSt _ _); cbv; (try simp only [and_true, true_and]))
 all_goals try (repeat' with_reducible refine And.intro ?_ ?_)
 all_goals first | (refine retK h ?_; clear h; simp only [fin0]) | (with_reducible refine Ob.mk ?_; clear h) | (clear h)
 all_goals (try simp only [eta0, RT.bytes] at *)
 all_goals grind [wrap_succ, same_zero, same_succ, same_all, wlk_ext]
theorem okIsInts : SpecOk1 Tryz.prog 20 sIsI := spec1 tabOk (ss := []) trivial rfl rfl <| by
 intro (bs : Th (List Int)) (p : Th Int) ⟨(a : Th (List Int)), (b : Th (List Int)), u⟩ K _ _ ho h
 obtain ⟨a, rfl⟩ := th_ex a; obtain ⟨b, rfl⟩ := th_ex b
 have hl := okL (ho.1 _ (.head _))
 refine ⟨annL [(20, 4, ⟨Nat, [], fun σ k => σ.t 5 (vI fun _ => (k : Int)), fun _ k _ => k ≤ a.length ∧ a.length = b.length ∧ same .int a b k, fun _ k _ => a.length - k⟩)], noAnn, 20, ?_⟩
 cbv
 repeat' first | ((with_reducible refine fun (k : Nat) => ?_); cbv) | ((with_reducible intro _); cbv) | (with_reducible refine And.intro ?_ ?_)
 all_goals try ((first | (with_reducible refine LoopIn.mk ((0 : Nat)) ?_ ?_) | (with_reducible refine LoopBack.mk ((k + 1 : Nat)) ?_ ?_ ?_)) )
 all_goals try ((with_reducible show matchSt _ _); cbv; (try simp only [and_true, true_and]))
 all_goals try (repeat' with_reducible refine And.intro ?_ ?_)
 all_goals first | (refine retK h ?_; clear h; simp only [fin0]) | (with_reducible refine Ob.mk ?_; clear h) | (clear h)
 all_goals (try simp only [eta0, RT.bytes] at *)
 all_goals grind [wrap_succ, same_zero, same_succ, same_all]
theorem okIsParcels : SpecOk1 Tryz.prog 134 sIsP := spec1 tabOk (ss := []) trivial rfl rfl <| by
 intro (bs : Th (List Int)) (p : Th Int) ⟨(a : Th (List Pcl)), (b : Th (List Pcl)), u⟩ K _ _ ho h
 obtain ⟨a, rfl⟩ := th_ex a; obtain ⟨b, rfl⟩ := th_ex b
 have hl := okL (ho.1 _ (.head _))
 refine ⟨annL [(134, 4, ⟨Nat, [], fun σ k => σ.t 5 (vI fun _ => (k : Int)), fun _ k _ => k ≤ a.length ∧ a.length = b.length ∧ same .pcl a b k, fun _ k _ => a.length - k⟩)], noAnn, 20, ?_⟩
 cbv
 repeat' first | ((with_reducible refine fun (k : Nat) => ?_); cbv) | ((with_reducible intro _); cbv) | (with_reducible refine And.intro ?_ ?_)
 all_goals try ((first | (with_reducible refine LoopIn.mk ((0 : Nat)) ?_ ?_) | (with_reducible refine LoopBack.mk ((k + 1 : Nat)) ?_ ?_ ?_)) )
 all_goals try ((with_reducible show matchSt _ _); cbv; (try simp only [and_true, true_and]))
 all_goals try (repeat' with_reducible refine And.intro ?_ ?_)
 all_goals first | (refine retK h ?_; clear h; simp only [fin0]) | (with_reducible refine Ob.mk ?_; clear h) | (clear h)
 all_goals (try simp only [eta0, RT.bytes] at *)
 all_goals grind [wrap_succ, same_zero, same_succ, same_all, wlk_ext, pcl_ext]
theorem okIsCell : SpecOk1 Tryz.prog 86 sIsC := spec1 tabOk (ss := [(133, sIsW), (20, sIsI), (134, sIsP)]) ⟨okIsList, okIsInts, okIsParcels, trivial⟩ rfl rfl <| by
 intro (bs : Th (List Int)) (p : Th Int) ⟨(a : Th Cll), (b : Th Cll), u⟩ K _ _ ho h
 obtain ⟨a, rfl⟩ := th_ex a; obtain ⟨b, rfl⟩ := th_ex b
 have hl := (okCll ho.1).o
 refine ⟨annL [(86, 4, ⟨Nat, [], fun σ k => σ.t 5 (vI fun _ => (k : Int)), fun _ k _ => k ≤ a.outs.length ∧ a.outs.length = b.outs.length ∧ same .pcls a.outs b.outs k ∧ a.cell = b.cell ∧ a.ground = b.ground ∧ a.wlks = b.wlks ∧ a.next = b.next ∧ a.ins = b.ins, fun _ k _ => a.outs.length - k⟩)], noAnn, 20, ?_⟩
 cbv
 repeat' first | ((with_reducible refine fun (k : Nat) => ?_); cbv) | ((with_reducible intro _); cbv) | (with_reducible refine And.intro ?_ ?_)
 all_goals try ((first | (with_reducible refine LoopIn.mk ((0 : Nat)) ?_ ?_) | (with_reducible refine LoopBack.mk ((k + 1 : Nat)) ?_ ?_ ?_)) )
 all_goals try ((with_reducible show matchSt _ _); cbv; (try simp only [and_true, true_and]))
 all_goals try (repeat' with_reducible refine And.intro ?_ ?_)
 all_goals first | (refine retK h ?_; clear h; simp only [fin0]) | (with_reducible refine Ob.mk ?_; clear h) | (clear h)
 all_goals (try simp only [eta0, RT.bytes] at *)
 all_goals grind [wrap_succ, same_zero, same_succ, same_all, cll_ext]
end Go.Proofs.YtjdaiobeiimpfaaGreat
namespace Go.Mo
open Go.Sx
theorem sto_ext {a b : Sto} : a = b ↔ a.age = b.age ∧ a.base = b.base ∧ a.recs = b.recs := by
 cases a; cases b; simp
theorem hld_ext {a b : Hld} : a = b ↔ a.age = b.age ∧ a.count = b.count ∧ a.state = b.state := by
 cases a; cases b; simp
end Go.Mo
namespace Go.Proofs.YtjdaiobeiimpfaaGreat
open Go.Sx Go.Proofs Go.Mo
noncomputable def sIsS : Sx.Spec := ⟨false, true, [.row .sto, .row .sto], [], fun _ _ ⟨a, b, _⟩ => .ret (vB fun _ => decide (a () = b ()), fun _ => 0)⟩
noncomputable def sIsH : Sx.Spec := ⟨false, true, [.row .hld, .row .hld], [], fun _ _ ⟨a, b, _⟩ => .ret (vB fun _ => decide (a () = b ()), fun _ => 0)⟩
theorem okIsRecs : SpecOk1 Tryz.prog 24 sIsR := spec1 tabOk (ss := []) trivial rfl rfl <| by
 intro (bs : Th (List Int)) (p : Th Int) ⟨(a : Th (List Sx.Rec)), (b : Th (List Sx.Rec)), u⟩ K _ _ ho h
 obtain ⟨a, rfl⟩ := th_ex a; obtain ⟨b, rfl⟩ := th_ex b
 have hl := okL (ho.1 _ (.head _))
 refine ⟨annL [(24, 4, ⟨Nat, [], fun σ k => σ.t 5 (vI fun _ => (k : Int)), fun _ k _ => k ≤ a.length ∧ a.length = b.length ∧ same .rcd a b k, fun _ k _ => a.length - k⟩)], noAnn, 20, ?_⟩
 cbv
 repeat' first | ((with_reducible refine fun (k : Nat) => ?_); cbv) | ((with_reducible intro _); cbv) | (with_reducible refine And.intro ?_ ?_)
 all_goals try ((first | (with_reducible refine LoopIn.mk ((0 : Nat)) ?_ ?_) | (with_reducible refine LoopBack.mk ((k + 1 : Nat)) ?_ ?_ ?_)) )
 all_goals try ((with_reducible show matchSt _ _); cbv; (try simp only [and_true, true_and]))
 all_goals try (repeat' with_reducible refine And.intro ?_ ?_)
 all_goals first | (refine retK h ?_; clear h; simp only [fin0]) | (with_reducible refine Ob.mk ?_; clear h) | (clear h)
 all_goals (try simp only [eta0, RT.bytes] at *)
 all_goals grind [wrap_succ, same_zero, same_succ, same_all, wlk_ext, pcl_ext, ord_ext, rec_ext]
theorem okIsStore : SpecOk1 Tryz.prog 42 sIsS := spec1 tabOk (ss := [(86, sIsC), (24, sIsR)]) ⟨okIsCell, okIsRecs, trivial⟩ rfl rfl <| by
 intro (bs : Th (List Int)) (p : Th Int) ⟨(a : Th Sto), (b : Th Sto), u⟩ K _ _ ho h
 obtain ⟨a, rfl⟩ := th_ex a; obtain ⟨b, rfl⟩ := th_ex b
 refine ⟨noAnn, noAnn, 20, ?_⟩
 cbv
 repeat' first | ((with_reducible intro _); cbv) | (with_reducible refine And.intro ?_ ?_)
 all_goals first | (refine retK h ?_; clear h; simp only [fin0]) | (with_reducible refine Ob.mk ?_; clear h) | (clear h)
 all_goals (try simp only [eta0, RT.bytes] at *)
 all_goals grind [sto_ext]
end Go.Proofs.YtjdaiobeiimpfaaGreat
namespace Go.Proofs.YtjdaiobeiimpfaaGreat
open Go.Sx Go.Proofs Go.RowKit
theorem ins_info : (Tryz.prog.info? 55).map (fun i => (i.zero, i.size, i.bytes)) = some (some (.agg #[.int .i64 0, .int .i64 0, .int .i64 0, .int .i64 0, .int .i64 0]), 5, 40) := by kernel_rfl
theorem ins_ty : ∃ inf z, Tryz.prog.info? 55 = some inf ∧ inf.size = 5 ∧ inf.bytes = 40 ∧ inf.zero = some z ∧ z.cells.size = 5 := by
 obtain ⟨i0, h1, h2, h3, h4⟩ := info_parts ins_info
 exact ⟨i0, _, h1, h3, h4, h2, rfl⟩
theorem ins_room (w : World) (b n c i vb voff vc T tV : Nat) (cs vcs : Array Value) (us : List Value) (hi : i < n) (hroom : n + 1 ≤ c) (hc : c ≤ maxLen) (hh : w.heap[b]? = some (.cells cs T (0, 0))) (hs : cs.size = c * 5) (hu : us.length = 5)
  (hvh : w.heap[vb]? = some (.cells vcs tV (0, 0))) (hvb : vb ≠ b) (hvs : ∀ j v, us[j]? = some v → w.cell? ⟨vb, voff + j, none⟩ = some v) (h1 : ∀ u ∈ us, one u) (h1c : ∀ u ∈ cs.toList.take (n * 5), one u) :
  Calls Tryz.prog 250 #[.slice (some ⟨b, 0, none⟩) n c, .int .i64 i, .slice (some ⟨vb, voff, none⟩) 1 vc] w fun e w' =>
   ∃ v, e = .returned v ∧ InsE w w' 5 (.slice (some ⟨b, 0, none⟩) n c) v n i 1 b c cs us := by
 obtain ⟨inf, z, hinf, hsz, hby, hz, hzc⟩ := ins_ty
 have u25 := run_underlying Tryz.underlying68
 have z38 : ∀ w, (sizeOf 55).run Tryz.prog w = .ok 5 w := fun w => by simp [sizeOf, typeInfo, hinf, hsz]
 have hc63 : c ≤ 9223372036854775807 := hc
 have hcb : n + 1 ≤ 9223372036854775807 := by omega
 have hkB : cs.size ≠ 0 := by rw [hs]; omega
 have hov : ∀ lb cb, (callFunc 254 #[.slice (some ⟨vb, voff, none⟩) 1 vc, .slice (some ⟨b, (i + 1) * 5, none⟩) lb cb]).run Tryz.prog w = .ok (.value (.bool false)) w := fun lb cb => by
  rw [run_callFunc_extern Tryz.func254 (by kernel_rfl) (by kernel_rfl) (by kernel_rfl) (e := Extern.SlicesOverlaps.overlaps #[68, 68] #[4]) (by kernel_rfl),
   Lib.run_overlaps_apart w 68 4 55 Tryz.underlying68 5 z38 ⟨vb, voff, none⟩ ⟨b, (i + 1) * 5, none⟩ 1 vc lb cb hvb tV T vcs.size cs.size (by simp [World.shape?, hvh]) (by simp [World.shape?, hh]) hkB (frozen_of_row _ _ _ _ _ hvh) (frozen_of_row _ _ _ _ _ hvh)]
  rfl
 have hw1 : IntKind.i64.wrap ((n : Int) + 1) = ((n + 1 : Nat) : Int) := by rw [IntKind.wrap_i64]; omega
 have hw2 : IntKind.i64.wrap ((i : Int) + 1) = ((i + 1 : Nat) : Int) := by rw [IntKind.wrap_i64]; omega
 have hne : ¬ ((i : Int) = (n : Int)) := by omega
 have mixed := tabOk.mix
 have hb1 : (0 : Int) ≤ (i : Int) + 1 := by omega
 have hin : i ≤ n := by omega
 have hb2 : ¬ (c = i + 1) := by omega
 have hb3 : (i : Int) ≤ (n : Int) + 1 := by omega
 have hb4 : ¬ (c = i) := by omega
 have htn : ((i : Int) + 1).toNat = i + 1 := by omega
 go_enter Tryz.func250, Tryz.ntmps250
 go_wp2_with (simp only [hov])
 clear hov
 have htl := tail_len (i := i) hs (show n ≤ c by omega)
 have hn5 : (n + 1) * 5 ≤ c * 5 := Nat.mul_le_mul_right _ hroom
 have hsrc : ∀ j v, ((cs.toList.take (n * 5)).drop (i * 5))[j]? = some v → w.cell? ⟨b, i * 5 + j, none⟩ = some v := fun j v hj => by
  rw [List.getElem?_drop, List.getElem?_take] at hj
  rw [cell_at hh]
  split at hj
  ·simpa using hj
  ·cases hj
 have hcp1 : ∀ ty dc sc, (Builtin.copy_ #[68, 68] ty #[.slice (some ⟨b, (i + 1) * 5, none⟩) (n - i) dc, .slice (some ⟨b, i * 5, none⟩) (n + 1 - i) sc]).run Tryz.prog w.drew = .ok (goInt (n - i : Nat)) (wrote w.drew b ((i + 1) * 5) cs ((cs.toList.take (n * 5)).drop (i * 5))) := fun ty dc sc =>
  run_copy_big (k := n - i) (us := (cs.toList.take (n * 5)).drop (i * 5)) Tryz.underlying68 hinf (by simp only [Nat.min_def]; split <;> omega) (by rw [hsz]; exact htl) (fun j v hj => by
   rw [addr_add]
   exact hsrc j v hj) hh (by rw [htl, hs]; omega) (fun u hu => h1c u (List.mem_of_mem_drop hu))
 go_region_law_o (refine step_copy_runI rfl _ _ 68 68 rfl _ _ (by simp [Act.eval, Act.put]) (by simp [Act.eval, Act.put]) (hcp1 _ _ _) ?_)
 have htl2 : ((cs.toList.take (n * 5)).drop (i * 5)).length = (n - i) * 5 := htl
 obtain ⟨cs1, hcs1⟩ : ∃ cs1, cs1 = (putAt cs.toList ((i + 1) * 5) ((cs.toList.take (n * 5)).drop (i * 5))).toArray := ⟨_, rfl⟩
 obtain ⟨W1, hW1⟩ : ∃ W1, W1 = wrote w.drew b ((i + 1) * 5) cs ((cs.toList.take (n * 5)).drop (i * 5)) := ⟨_, rfl⟩
 have hh1 : W1.heap[b]? = some (.cells cs1 T (0, 0)) := by rw [hW1, hcs1]; exact wrote_heap hh
 have hv1 : W1.heap[vb]? = some (.cells vcs tV (0, 0)) := by rw [hW1, wrote_other hvb]; exact hvh
 have hsz1 : cs1.size = c * 5 := by rw [hcs1, List.size_toArray, putAt_length _ _ _ (by rw [htl2, Array.length_toList, hs]; omega), Array.length_toList, hs]
 have hcp2 : ∀ (W : World), W.heap = W1.heap → ∀ ty dc, (Builtin.copy_ #[68, 68] ty #[.slice (some ⟨b, i * 5, none⟩) (n + 1 - i) dc, .slice (some ⟨vb, voff, none⟩) 1 vc]).run Tryz.prog W = .ok (goInt (1 : Nat)) (wrote W b (i * 5) cs1 us) := fun W hW ty dc =>
  run_copy_big (k := 1) (us := us) (T := T) Tryz.underlying68 hinf (by simp only [Nat.min_def]; split <;> omega) (by rw [hsz, hu]) (fun j v hj => by
   rw [addr_add, cell_at (cs := vcs) (T := tV) (by rw [hW]; exact hv1)]
   have := hvs j v hj
   rw [cell_at hvh] at this
   exact this) (by rw [hW]; exact hh1) (by rw [hu, hsz1]; omega) h1
 rw [← hW1]
 go_wp2_with (at_builtin; refine wpList_copy_runI _ rfl _ _ 68 68 rfl _ _ rfl rfl (hcp2 _ rfl _ _) ?_)
 have hend : InsM w (wrote W1 b (i * 5) cs1 us) 5 (.slice (some ⟨b, 0, none⟩) n c) (.slice (some ⟨b, 0, none⟩) (n + 1) c) n i 1 b c cs us b c (shifted cs 5 n i us).toArray T := by
  refine InsM.room hh hs hroom hc hi hu ?_ (fun x hx => ?_) ?_ ?_ ?_ ?_
  ·rw [wrote_heap hh1, shifted, hcs1]
  ·rw [wrote_other hx, hW1, wrote_other hx]; rfl
  ·rw [hW1]; rfl
  ·rw [hW1]; rfl
  ·rw [hW1]; rfl
  ·rw [hW1]; simp [wrote, World.setRow]
 subst hcs1
 subst hW1
 go_ret
 exact ⟨.slice (some ⟨b, 0, none⟩) (n + 1) c, rfl, _, _, _, _, hend⟩
theorem ins_grow (w : World) (b n c i vb voff vc T tV : Nat) (cs vcs : Array Value) (us : List Value) (hi : i < n) (hnc : n ≤ c) (hroom : c < n + 1) (hc : c ≤ maxLen) (hh : w.heap[b]? = some (.cells cs T (0, 0))) (hs : cs.size = c * 5) (hu : us.length = 5)
  (hvh : w.heap[vb]? = some (.cells vcs tV (0, 0))) (hvs : ∀ j v, us[j]? = some v → w.cell? ⟨vb, voff + j, none⟩ = some v) (h1 : ∀ u ∈ us, one u) (h1c : ∀ u ∈ cs.toList.take (n * 5), one u) (hbig : (n + 1) * 40 ≤ 140737488355328) :
  Calls Tryz.prog 250 #[.slice (some ⟨b, 0, none⟩) n c, .int .i64 i, .slice (some ⟨vb, voff, none⟩) 1 vc] w fun e w' =>
   ∃ v, e = .returned v ∧ InsE w w' 5 (.slice (some ⟨b, 0, none⟩) n c) v n i 1 b c cs us := by
 obtain ⟨inf, z, hinf, hsz, hby, hz, hzc⟩ := ins_ty
 have u25 := run_underlying Tryz.underlying68
 have z38 : ∀ w, (sizeOf 55).run Tryz.prog w = .ok 5 w := fun w => by simp [sizeOf, typeInfo, hinf, hsz]
 have mixed := tabOk.mix
 have hc63 : c ≤ 9223372036854775807 := hc
 have hsrc : ∀ j v, ((cs.toList.take (n * 5)).drop (i * 5))[j]? = some v → w.cell? ⟨b, i * 5 + j, none⟩ = some v := fun j v hj => by
  rw [List.getElem?_drop, List.getElem?_take] at hj
  rw [cell_at hh]
  split at hj
  ·simpa using hj
  ·cases hj
 have hi5 : (i + 1) * 5 ≤ c * 5 := Nat.mul_le_mul_right _ (by omega)
 have hold : (Builtin.firstCells inf.size i (.slice (some ⟨b, 0, none⟩) i c)).run Tryz.prog w.drew = .ok (cs.toList.take (i * 5)).toArray w.drew := by
  rw [hsz]
  exact run_firstCells_some w.drew 5 i ⟨b, 0, none⟩ i c (cs.toList.take (i * 5)) (by rw [List.length_take, Array.length_toList, hs]; omega) (fun j v hj => by
   rw [addr_add, Nat.zero_add, show w.drew.cell? ⟨b, j, none⟩ = w.cell? ⟨b, j, none⟩ from rfl, cell_at hh]
   rw [List.getElem?_take] at hj
   split at hj
   ·simpa using hj
   ·cases hj)
 have hik : i + (n + 1 - i) = n + 1 := by omega
 have hkk : (n : Int) + 1 - (i : Int) = ((n + 1 - i : Nat) : Int) := by omega
 have hrz : ∀ ty, (Builtin.append_ #[68, 3] ty #[.slice (some ⟨b, 0, none⟩) i c, .int .i64 ((n : Int) + 1 - (i : Int))]).run Tryz.prog w =
   .ok (.slice (some ⟨w.heap.size, 0, none⟩) (n + 1) (grownCap w (n + 1) c 55)) (w.drew.alloc (.cells ((cs.toList.take (i * 5)).toArray ++ Builtin.zeroCells z.cells (n + 1 - i) ++ Builtin.zeroCells z.cells (grownCap w (n + 1) c 55 - (n + 1))) 55)) := fun ty => by
  have h := Lib.run_append_grow_zeros w 68 3 ty 55 inf z .i64 .i64 Tryz.underlying68 Tryz.underlying3 hinf hz (some ⟨b, 0, none⟩) i c (cs.toList.take (i * 5)) hold (n + 1 - i) (by omega) (by omega) (by omega) (by omega) (by rw [hby]; omega) (by rw [hby, hik]; exact growslice_fits hroom hbig)
  rw [hik] at h
  rw [hkk]
  exact h
 obtain ⟨G, hG⟩ : ∃ G, G = grownCap w (n + 1) c 55 := ⟨_, rfl⟩
 have hGn : n + 1 ≤ G := by rw [hG]; exact grownCap_ge w _ _ _
 have hGm : G ≤ maxLen := by rw [hG]; exact grownCap_le_maxLen w (n + 1) c _ (by unfold maxLen; omega)
 have hG63 : G ≤ 9223372036854775807 := hGm
 obtain ⟨ROW, hROW⟩ : ∃ ROW : Array Value, ROW = (cs.toList.take (i * 5)).toArray ++ Builtin.zeroCells z.cells (n + 1 - i) ++ Builtin.zeroCells z.cells (G - (n + 1)) := ⟨_, rfl⟩
 rw [← hG] at hrz
 rw [← hROW] at hrz
 have hRl : ROW.toList.length = G * 5 := by
  rw [hROW, Array.length_toList]
  simp only [Array.size_append, List.size_toArray, size_zeroCells, hzc, List.length_take, Array.length_toList, hs]
  omega
 have hR0 : ∀ o, o < i * 5 → ROW.toList[o]? = cs[o]? := fun o ho => by
  have hl : (cs.toList.take (i * 5)).length = i * 5 := by rw [List.length_take, Array.length_toList, hs]; omega
  rw [hROW]
  simp only [Array.toList_append]
  rw [List.append_assoc, List.getElem?_append_left (by rw [List.toList_toArray, hl]; exact ho), List.toList_toArray, List.getElem?_take, if_pos ho]
  simp
 have htl := tail_len (i := i) hs hnc
 have hbw : b < w.heap.size := by
  rcases Nat.lt_or_ge b w.heap.size with h | h
  ·exact h
  ·rw [Array.getElem?_eq_none h] at hh; cases hh
 have hvw : vb < w.heap.size := by
  rcases Nat.lt_or_ge vb w.heap.size with h | h
  ·exact h
  ·rw [Array.getElem?_eq_none h] at hvh; cases hvh
 obtain ⟨W1, hW1⟩ : ∃ W1, W1 = w.drew.alloc (.cells ROW 55) := ⟨_, rfl⟩
 rw [← hW1] at hrz
 have hN1 : W1.heap[w.heap.size]? = some (.cells ROW 55 (0, 0)) := by rw [hW1]; exact alloc_new' w _
 have hO1 : ∀ x, x < w.heap.size → W1.heap[x]? = w.heap[x]? := fun x hx => by rw [hW1]; exact alloc_old' w _ x hx
 obtain ⟨R2, hR2⟩ : ∃ R2, R2 = (putAt ROW.toList (i * 5) us).toArray := ⟨_, rfl⟩
 have hG5 : (n + 1) * 5 ≤ G * 5 := Nat.mul_le_mul_right _ hGn
 have hR2l : R2.size = G * 5 := by rw [hR2, List.size_toArray, putAt_length _ _ _ (by rw [hu, hRl]; omega), hRl]
 have hcpA : ∀ (W : World), W.heap = W1.heap → ∀ ty dc, (Builtin.copy_ #[68, 68] ty #[.slice (some ⟨w.heap.size, i * 5, none⟩) (n + 1 - i) dc, .slice (some ⟨vb, voff, none⟩) 1 vc]).run Tryz.prog W = .ok (goInt (1 : Nat)) (wrote W w.heap.size (i * 5) ROW us) := fun W hW ty dc =>
  run_copy_big (k := 1) (us := us) (T := 55) Tryz.underlying68 hinf (by simp only [Nat.min_def]; split <;> omega) (by rw [hsz, hu]) (fun j v hj => by
   rw [addr_add, cell_at (cs := vcs) (T := tV) (by rw [hW, hO1 _ hvw]; exact hvh)]
   have := hvs j v hj
   rw [cell_at hvh] at this
   exact this) (by rw [hW]; exact hN1) (by rw [hu, ← Array.length_toList, hRl]; omega) h1
 obtain ⟨W2, hW2⟩ : ∃ W2, W2 = wrote W1 w.heap.size (i * 5) ROW us := ⟨_, rfl⟩
 have hcpB : ∀ (W : World), W.heap = W2.heap → ∀ ty dc sc, (Builtin.copy_ #[68, 68] ty #[.slice (some ⟨w.heap.size, (i + 1) * 5, none⟩) (n - i) dc, .slice (some ⟨b, i * 5, none⟩) (n - i) sc]).run Tryz.prog W = .ok (goInt (n - i : Nat)) (wrote W w.heap.size ((i + 1) * 5) R2 ((cs.toList.take (n * 5)).drop (i * 5))) := fun W hW ty dc sc =>
  run_copy_big (k := n - i) (us := (cs.toList.take (n * 5)).drop (i * 5)) (T := 55) Tryz.underlying68 hinf (by simp only [Nat.min_def]; split <;> omega) (by rw [hsz, htl]) (fun j v hj => by
   rw [addr_add, cell_at (cs := cs) (T := T) (by rw [hW, hW2, wrote_other (by omega), hO1 _ hbw]; exact hh)]
   have := hsrc j v hj
   rw [cell_at hh] at this
   exact this) (by rw [hW, hW2, hR2]; exact wrote_heap hN1) (by rw [htl, hR2l]; omega) (fun u hu => h1c u (List.mem_of_mem_drop hu))
 have hGi : ¬ (G = i) := by omega
 have hGim : ¬ (G = i + 1) := by omega
 have hci : ¬ (c = i) := by omega
 have hw1 : IntKind.i64.wrap ((n : Int) + 1) = ((n + 1 : Nat) : Int) := by rw [IntKind.wrap_i64]; omega
 have hw2 : IntKind.i64.wrap ((i : Int) + 1) = ((i + 1 : Nat) : Int) := by rw [IntKind.wrap_i64]; omega
 have hb1 : (0 : Int) ≤ (i : Int) + 1 := by omega
 have hin : i ≤ n := by omega
 have htn : ((i : Int) + 1).toNat = i + 1 := by omega
 have hb3 : (i : Int) ≤ (n : Int) := by omega
 have hne : ¬ ((i : Int) = (n : Int)) := by omega
 have hend : ∀ W : World, W.heap = (wrote W2 w.heap.size ((i + 1) * 5) R2 ((cs.toList.take (n * 5)).drop (i * 5))).heap → W.os = w.os → W.tape = w.tape → W.output = w.output → InsE w W 5 (.slice (some ⟨b, 0, none⟩) n c) (.slice (some ⟨w.heap.size, 0, none⟩) (n + 1) G) n i 1 b c cs us := fun W hW g1 g2 g3 => by
  refine ⟨_, _, _, 55, InsM.grow (row := ROW.toList) hRl hs hnc hGn hGm hi hu hR0 ?_ rfl ?_ (fun x hx => ?_) g1 g2 g3⟩
  ·rw [hW, wrote_heap (T := 55) (by rw [hW2, hR2]; exact wrote_heap hN1), grownL, hR2]
  ·rw [hW, hW2, hW1]; simp [wrote, World.setRow, World.alloc]
  ·rw [hW, wrote_other (by omega), hW2, wrote_other (by omega)]; exact hO1 x hx
 clear hkk hik hold hROW hG hRl hR0
 go_enter Tryz.func250, Tryz.ntmps250
 go_wp2_with (first
  | (at_builtin; refine Lib.wpList_append_run _ rfl _ _ _ _ rfl _ _ rfl rfl _ _ (hrz _) ?_)
  | (at_builtin; refine wpList_copy_runI _ rfl _ _ 68 68 rfl _ _ rfl rfl (hcpA _ rfl _ _) ?_))
 go_region_law_o (refine step_copy_runI rfl _ _ 68 68 rfl (.slice (some ⟨w.heap.size, (i + 1) * 5, none⟩) (n - i) (G - (i + 1))) (.slice (some ⟨b, i * 5, none⟩) (n - i) (c - i)) (by simp [Act.eval, Act.put]) (by simp [Act.eval, Act.put]) (hcpB _ (by rw [hW2, hW1]; rfl) _ _ _) ?_)
 go_wp2
 go_ret
 exact ⟨.slice (some ⟨w.heap.size, 0, none⟩) (n + 1) G, rfl, hend _ (by rw [hW2, hW1, hR2]; rfl) rfl rfl rfl⟩
theorem ins_end (w : World) (b n c vb voff vc T : Nat) (cs : Array Value) (us : List Value) (hn : n ≤ c) (hc : c ≤ maxLen) (hh : w.heap[b]? = some (.cells cs T (0, 0))) (hs : cs.size = c * 5) (hu : us.length = 5)
  (hvs : ∀ j v, us[j]? = some v → w.cell? ⟨vb, voff + j, none⟩ = some v) (h1 : ∀ u ∈ us, one u) (hb : (n + 1) * 40 ≤ 140737488355328) :
  Calls Tryz.prog 250 #[.slice (some ⟨b, 0, none⟩) n c, .int .i64 n, .slice (some ⟨vb, voff, none⟩) 1 vc] w fun e w' =>
   ∃ v, e = .returned v ∧ InsE w w' 5 (.slice (some ⟨b, 0, none⟩) n c) v n n 1 b c cs us := by
 obtain ⟨inf, z, hinf, hsz, hby, hz, hzc⟩ := ins_ty
 have u25 := run_underlying Tryz.underlying68
 have z38 : ∀ w, (sizeOf 55).run Tryz.prog w = .ok 5 w := fun w => by simp [sizeOf, typeInfo, hinf, hsz]
 have hc63 : c ≤ 9223372036854775807 := hc
 have mixed := tabOk.mix
 rcases run_append_all (P := Tryz.prog) (ty := 68) (w := w) Tryz.underlying68 hinf hz hsz hby hzc (Old.row n b c cs T hh hn hc hs) (m := 1) (us := us) ⟨by rw [hu], .inr (.inr ⟨vb, voff, vc, rfl, hvs⟩)⟩ h1 (by omega) (by simpa using hb) with ⟨_, h, _⟩ | ⟨v, w', b', cap', cs', T', hr, A⟩
 ·cases h
 ·have hend : InsE w w' 5 _ v _ _ 1 b _ cs us := ⟨_, _, _, _, A.ins⟩
  by_cases hcn : n = c
  ·subst hcn
   go_enter Tryz.func250, Tryz.ntmps250
   go_wp2_with (at_builtin; refine Lib.wpList_append_run _ rfl _ _ _ _ rfl _ _ rfl rfl _ _ hr ?_)
   go_ret
   exact ⟨v, rfl, hend⟩
  ·have hcn2 : ¬ (c = n) := fun h => hcn h.symm
   go_enter Tryz.func250, Tryz.ntmps250
   go_wp2_with (at_builtin; refine Lib.wpList_append_run _ rfl _ _ _ _ rfl _ _ rfl rfl _ _ hr ?_)
   go_ret
   exact ⟨v, rfl, hend⟩
theorem ins_nil (w : World) (b vb voff vc T : Nat) (cs : Array Value) (us : List Value) (hcs : cs = #[]) (hu : us.length = 5)
  (hvs : ∀ j v, us[j]? = some v → w.cell? ⟨vb, voff + j, none⟩ = some v) (h1 : ∀ u ∈ us, one u) :
  Calls Tryz.prog 250 #[.slice none 0 0, .int .i64 0, .slice (some ⟨vb, voff, none⟩) 1 vc] w fun e w' =>
   ∃ v, e = .returned v ∧ InsE w w' 5 (.slice none 0 0) v 0 0 1 b 0 cs us := by
 obtain ⟨inf, z, hinf, hsz, hby, hz, hzc⟩ := ins_ty
 have u25 := run_underlying Tryz.underlying68
 have z38 : ∀ w, (sizeOf 55).run Tryz.prog w = .ok 5 w := fun w => by simp [sizeOf, typeInfo, hinf, hsz]
 have mixed := tabOk.mix
 rcases run_append_all (P := Tryz.prog) (ty := 68) (w := w) Tryz.underlying68 hinf hz hsz hby hzc (Old.nil b 0 cs T hcs rfl) (m := 1) (us := us) ⟨by rw [hu], .inr (.inr ⟨vb, voff, vc, rfl, hvs⟩)⟩ h1 (by omega) (by omega) with ⟨_, _, _, h⟩ | ⟨v, w', b', cap', cs', T', hr, A⟩
 ·cases h
 ·go_enter Tryz.func250, Tryz.ntmps250
  have hend : InsE w w' 5 _ v _ _ 1 b _ cs us := ⟨_, _, _, _, A.ins⟩
  go_wp2_with (at_builtin; refine Lib.wpList_append_run _ rfl _ _ _ _ rfl _ _ rfl rfl _ _ hr ?_)
  all_goals go_ret
  all_goals first | exact ⟨v, rfl, hend⟩ | (have hcn : c = n := by (first | assumption | (symm; assumption) | omega); subst hcn; exact ⟨v, rfl, hend⟩)
theorem insFn : InsFn Tryz.prog 250 .wlk := by
 intro w s n b cap cs T i vb vcap vT vcs us hO hi hvb hvh hu hvs h1 h1c hL
 have hs5 : RT.size .wlk = 5 := rfl
 have hb5 : RT.bytes .wlk = 40 := rfl
 rw [hs5] at *
 rw [hb5] at hL
 cases hO with
 | nil _ _ _ _ hcs hcap =>
  have : i = 0 := by omega
  subst this
  subst hcap
  exact ins_nil w b vb 0 vcap T cs us hcs hu hvs h1
 | row _ _ _ _ _ hh hnc hcm hcs =>
  rcases Nat.lt_or_ge i n with hlt | hge
  ·rcases Nat.lt_or_ge cap (n + 1) with hr | hr
   ·exact ins_grow w b n cap i vb 0 vcap T vT cs vcs us hlt hnc hr hcm hh hcs hu hvh hvs h1 h1c hL
   ·exact ins_room w b n cap i vb 0 vcap T vT cs vcs us hlt hr hcm hh hcs hu hvh (hvb ⟨_, rfl⟩) hvs h1 h1c
  ·have : i = n := by omega
   subst this
   exact ins_end w b i cap vb 0 vcap T cs us hnc hcm hh hcs hu hvs h1 hL
theorem okInsert : SpecOk1 Tryz.prog 250 (.raw (insM .wlk)) :=
 ins_ok ⟨_, _, Tryz.func250, by kernel_rfl, rfl⟩ insFn
end Go.Proofs.YtjdaiobeiimpfaaGreat
