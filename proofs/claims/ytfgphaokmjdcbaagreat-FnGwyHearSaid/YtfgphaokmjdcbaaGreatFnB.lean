/-
  Contracts: places, walkers.
-/
import Derived.Test.YtfgphaokmjdcbaaGreatTok
import Derived.Test.YtfgphaokmjdcbaaGreatM1
set_option linter.unusedVariables false
set_option linter.unusedSimpArgs false
namespace Go.Proofs.YtfgphaokmjdcbaaGreat
open Go.Sx Go.Proofs Go.Mo
set_option maxRecDepth 100000
set_option maxHeartbeats 8000000
set_option linter.unusedSimpArgs false
set_option linter.unusedVariables false

noncomputable def sIn : Sx.Spec := ⟨false, true, [.int .i64, .int .i64, .int .i64], [], fun _ _ ⟨n, a, b, _⟩ => .ret (vB fun _ => inR (n ()) (a ()) (b ()), fun _ => 0)⟩
noncomputable def sPlcOk : Sx.Spec := ⟨false, true, [.map], [], fun _ _ ⟨m, _⟩ => .ret (vB fun _ => plcOk (m ()), fun _ => 0)⟩
noncomputable def sPlcCell : Sx.Spec := ⟨false, true, [.map, .int .i64], [], fun _ _ ⟨m, a, _⟩ => .ret (vI fun _ => plcCell (m ()) (a ()), fun _ => 0)⟩
noncomputable def sPlcSide : Sx.Spec := ⟨false, true, [.map, .int .i64, .int .i64], [], fun _ _ ⟨m, a, s, _⟩ => .ret (vI fun _ => plcSide (m ()) (a ()) (s ()), fun _ => 0)⟩
noncomputable def sPlcEdge : Sx.Spec := ⟨false, true, [.map, .int .i64, .int .i64], [], fun _ _ ⟨m, a, s, _⟩ => .ret (vB fun _ => plcEdge (m ()) (a ()) (s ()), fun _ => 0)⟩
noncomputable def sHasCell : Sx.Spec := ⟨false, true, [.map, .int .i64], [], fun _ _ ⟨m, a, _⟩ => .asrt (fun _ => -9223372036854775808 < (m ()).cells) (.ret (vB fun _ => decide (0 ≤ a () ∧ a () < (m ()).cells), fun _ => 0))⟩
noncomputable def sIsSide : Sx.Spec := ⟨false, true, [.int .i64], [], fun _ _ ⟨a, _⟩ => .ret (vB fun _ => decide (a () = 0 ∨ a () = 1), fun _ => 0)⟩
noncomputable def sToward : Sx.Spec := ⟨false, true, [.int .i64], [], fun _ _ ⟨a, _⟩ => .asrt (fun _ => a () = 0 ∨ a () = 1) (.ret (vI fun _ => 2 * a () - 1, fun _ => 0))⟩
noncomputable def sIsWalker : Sx.Spec := ⟨false, true, [.int .i64], [], fun _ _ ⟨a, _⟩ => .ret (vB fun _ => decide (1 ≤ a () ∧ a () ≤ 9), fun _ => 0)⟩
noncomputable def sWlkOk : Sx.Spec := ⟨false, true, [.map, .row .wlk], [], fun _ _ ⟨m, w, _⟩ => .ret (vB fun _ => wlkOk (m ()) (w ()), fun _ => 0)⟩
noncomputable def sRanged : Sx.Spec := ⟨false, true, [.row .wlk], [], fun _ _ ⟨w, _⟩ => .ret (vB fun _ => wlkRanged (w ()), fun _ => 0)⟩
noncomputable def sWlkListOkS : Sx.Spec := ⟨false, true, [.map, .list .wlk], [], fun _ _ ⟨m, l, _⟩ => .ret (vB fun _ => wlkAll (m ()) (l ()), fun _ => 0)⟩

theorem okIn : SpecOk1 Tryz.prog 55 sIn := spec1 tabOk (ss := []) trivial rfl rfl <| by
  intro (bs : Th (List Int)) (p : Th Int) ⟨(n : Th Int), (a : Th Int), (b : Th Int), u⟩ K _ _ _ h
  obtain ⟨n, rfl⟩ := th_ex n; obtain ⟨a, rfl⟩ := th_ex a; obtain ⟨b, rfl⟩ := th_ex b
  refine ⟨noAnn, noAnn, 20, ?_⟩
  cbv
  repeat' first | ((with_reducible intro _); cbv) | ((with_reducible show _ ∧ _); (with_reducible apply And.intro))
  all_goals first | (refine retK h ?_; clear h; simp only [fin0]) | (with_reducible refine Ob.mk ?_; clear h) | (clear h)
  all_goals (try simp only [eta0, RT.bytes] at *)
  all_goals grind [inR]
theorem okL1In : SpecOk1 Tryz.prog 47 sIn := spec1 tabOk (ss := []) trivial rfl rfl <| by
  intro (bs : Th (List Int)) (p : Th Int) ⟨(n : Th Int), (a : Th Int), (b : Th Int), u⟩ K _ _ _ h
  obtain ⟨n, rfl⟩ := th_ex n; obtain ⟨a, rfl⟩ := th_ex a; obtain ⟨b, rfl⟩ := th_ex b
  refine ⟨noAnn, noAnn, 20, ?_⟩
  cbv
  repeat' first | ((with_reducible intro _); cbv) | ((with_reducible show _ ∧ _); (with_reducible apply And.intro))
  all_goals first | (refine retK h ?_; clear h; simp only [fin0]) | (with_reducible refine Ob.mk ?_; clear h) | (clear h)
  all_goals (try simp only [eta0, RT.bytes] at *)
  all_goals grind [inR]

theorem okPlcOk : SpecOk1 Tryz.prog 57 sPlcOk := spec1 tabOk (ss := [(55, sIn)]) ⟨okIn, trivial⟩ rfl rfl <| by
  intro (bs : Th (List Int)) (p : Th Int) ⟨(m : Th PMap), u⟩ K _ _ _ h
  obtain ⟨m, rfl⟩ := th_ex m
  refine ⟨noAnn, noAnn, 20, ?_⟩
  cbv
  repeat' first | ((with_reducible intro _); cbv) | ((with_reducible show _ ∧ _); (with_reducible apply And.intro))
  all_goals first | (refine retK h ?_; clear h; simp only [fin0]) | (with_reducible refine Ob.mk ?_; clear h) | (clear h)
  all_goals (try simp only [eta0, RT.bytes] at *)
  all_goals grind [inR, plcOk]
theorem okSPlcOk : SpecOk1 Tryz.prog 45 sPlcOk := spec1 tabOk (ss := [(47, sIn)]) ⟨okL1In, trivial⟩ rfl rfl <| by
  intro (bs : Th (List Int)) (p : Th Int) ⟨(m : Th PMap), u⟩ K _ _ _ h
  obtain ⟨m, rfl⟩ := th_ex m
  refine ⟨noAnn, noAnn, 20, ?_⟩
  cbv
  repeat' first | ((with_reducible intro _); cbv) | ((with_reducible show _ ∧ _); (with_reducible apply And.intro))
  all_goals first | (refine retK h ?_; clear h; simp only [fin0]) | (with_reducible refine Ob.mk ?_; clear h) | (clear h)
  all_goals (try simp only [eta0, RT.bytes] at *)
  all_goals grind [inR, plcOk]

theorem okPlcCell : SpecOk1 Tryz.prog 127 sPlcCell := spec1 tabOk (ss := [(55, sIn), (57, sPlcOk)]) ⟨okIn, okPlcOk, trivial⟩ rfl rfl <| by
  intro (bs : Th (List Int)) (p : Th Int) ⟨(m : Th PMap), (a : Th Int), u⟩ K _ _ _ h
  obtain ⟨m, rfl⟩ := th_ex m; obtain ⟨a, rfl⟩ := th_ex a
  have hm := plc_mul (m := m)
  have hi := plcOk_iff (m := m)
  refine ⟨noAnn, noAnn, 20, ?_⟩
  cbv
  repeat' first | ((with_reducible intro _); cbv) | ((with_reducible show _ ∧ _); (with_reducible apply And.intro))
  all_goals first | (refine retK h ?_; clear h; simp only [fin0]) | (with_reducible refine Ob.mk ?_; clear h) | (clear h)
  all_goals (try simp only [eta0, RT.bytes] at *)
  all_goals grind [plcCell, inR, wrap_id, quo_in]
theorem okSPlcCell : SpecOk1 Tryz.prog 103 sPlcCell := spec1 tabOk (ss := [(47, sIn), (45, sPlcOk)]) ⟨okL1In, okSPlcOk, trivial⟩ rfl rfl <| by
  intro (bs : Th (List Int)) (p : Th Int) ⟨(m : Th PMap), (a : Th Int), u⟩ K _ _ _ h
  obtain ⟨m, rfl⟩ := th_ex m; obtain ⟨a, rfl⟩ := th_ex a
  have hm := plc_mul (m := m)
  have hi := plcOk_iff (m := m)
  refine ⟨noAnn, noAnn, 20, ?_⟩
  cbv
  repeat' first | ((with_reducible intro _); cbv) | ((with_reducible show _ ∧ _); (with_reducible apply And.intro))
  all_goals first | (refine retK h ?_; clear h; simp only [fin0]) | (with_reducible refine Ob.mk ?_; clear h) | (clear h)
  all_goals (try simp only [eta0, RT.bytes] at *)
  all_goals grind [plcCell, inR, wrap_id, quo_in]

theorem okHasCell : SpecOk1 Tryz.prog 54 sHasCell := spec1 tabOk (ss := [(55, sIn)]) ⟨okIn, trivial⟩ rfl rfl <| by
  intro (bs : Th (List Int)) (p : Th Int) ⟨(m : Th PMap), (a : Th Int), u⟩ K _ _ ho h
  obtain ⟨m, rfl⟩ := th_ex m; obtain ⟨a, rfl⟩ := th_ex a
  obtain ⟨hp, h⟩ := h
  have hp := hp.out
  have ho := okI (ho.1 _ (.head _))
  refine ⟨noAnn, noAnn, 20, ?_⟩
  cbv
  repeat' first | ((with_reducible intro _); cbv) | ((with_reducible show _ ∧ _); (with_reducible apply And.intro))
  all_goals first | (refine retK h ?_; clear h; simp only [fin0]) | (with_reducible refine Ob.mk ?_; clear h) | (clear h)
  all_goals (try simp only [eta0, RT.bytes] at *)
  all_goals grind [inR, wrap_id]
theorem okIsSide : SpecOk1 Tryz.prog 105 sIsSide := spec1 tabOk (ss := []) trivial rfl rfl <| by
  intro (bs : Th (List Int)) (p : Th Int) ⟨(a : Th Int), u⟩ K _ _ _ h
  obtain ⟨a, rfl⟩ := th_ex a
  refine ⟨noAnn, noAnn, 20, ?_⟩
  cbv
  repeat' first | ((with_reducible intro _); cbv) | ((with_reducible show _ ∧ _); (with_reducible apply And.intro))
  all_goals first | (refine retK h ?_; clear h; simp only [fin0]) | (with_reducible refine Ob.mk ?_; clear h) | (clear h)
  all_goals (try simp only [eta0, RT.bytes] at *)
  all_goals grind
theorem okToward : SpecOk1 Tryz.prog 124 sToward := spec1 tabOk (ss := []) trivial rfl rfl <| by
  intro (bs : Th (List Int)) (p : Th Int) ⟨(a : Th Int), u⟩ K _ _ _ h
  obtain ⟨a, rfl⟩ := th_ex a
  obtain ⟨hp, h⟩ := h
  have hp := hp.out
  refine ⟨noAnn, noAnn, 20, ?_⟩
  cbv
  repeat' first | ((with_reducible intro _); cbv) | ((with_reducible show _ ∧ _); (with_reducible apply And.intro))
  all_goals first | (refine retK h ?_; clear h; simp only [fin0]) | (with_reducible refine Ob.mk ?_; clear h) | (clear h)
  all_goals (try simp only [eta0, RT.bytes] at *)
  all_goals grind [wrap_id]
theorem okIsWalker : SpecOk1 Tryz.prog 53 sIsWalker := spec1 tabOk (ss := [(55, sIn)]) ⟨okIn, trivial⟩ rfl rfl <| by
  intro (bs : Th (List Int)) (p : Th Int) ⟨(a : Th Int), u⟩ K _ _ _ h
  obtain ⟨a, rfl⟩ := th_ex a
  refine ⟨noAnn, noAnn, 20, ?_⟩
  cbv
  repeat' first | ((with_reducible intro _); cbv) | ((with_reducible show _ ∧ _); (with_reducible apply And.intro))
  all_goals first | (refine retK h ?_; clear h; simp only [fin0]) | (with_reducible refine Ob.mk ?_; clear h) | (clear h)
  all_goals (try simp only [eta0, RT.bytes] at *)
  all_goals grind [inR]
theorem okPlcSide : SpecOk1 Tryz.prog 82 sPlcSide := spec1 tabOk (ss := [(57, sPlcOk), (54, sHasCell), (105, sIsSide), (124, sToward)]) ⟨okPlcOk, okHasCell, okIsSide, okToward, trivial⟩ rfl rfl <| by
  intro (bs : Th (List Int)) (p : Th Int) ⟨(m : Th PMap), (a : Th Int), (s : Th Int), u⟩ K _ _ _ h
  obtain ⟨m, rfl⟩ := th_ex m; obtain ⟨a, rfl⟩ := th_ex a; obtain ⟨s, rfl⟩ := th_ex s
  have hi := plcOk_iff (m := m)
  refine ⟨noAnn, noAnn, 20, ?_⟩
  cbv
  repeat' first | ((with_reducible intro _); cbv) | ((with_reducible show _ ∧ _); (with_reducible apply And.intro))
  all_goals first | (refine retK h ?_; clear h; simp only [fin0]) | (with_reducible refine Ob.mk ?_; clear h) | (clear h)
  all_goals (try simp only [eta0, RT.bytes] at *)
  all_goals grind [plcSide, wrap_id]
theorem okSPlcSide : SpecOk1 Tryz.prog 48 sPlcSide := spec1 tabOk (ss := [(45, sPlcOk), (47, sIn)]) ⟨okSPlcOk, okL1In, trivial⟩ rfl rfl <| by
  intro (bs : Th (List Int)) (p : Th Int) ⟨(m : Th PMap), (a : Th Int), (s : Th Int), u⟩ K _ _ _ h
  obtain ⟨m, rfl⟩ := th_ex m; obtain ⟨a, rfl⟩ := th_ex a; obtain ⟨s, rfl⟩ := th_ex s
  have hi := plcOk_iff (m := m)
  refine ⟨noAnn, noAnn, 20, ?_⟩
  cbv
  repeat' first | ((with_reducible intro _); cbv) | ((with_reducible show _ ∧ _); (with_reducible apply And.intro))
  all_goals first | (refine retK h ?_; clear h; simp only [fin0]) | (with_reducible refine Ob.mk ?_; clear h) | (clear h)
  all_goals (try simp only [eta0, RT.bytes] at *)
  all_goals grind [plcSide, wrap_id, inR]
theorem okPlcEdge : SpecOk1 Tryz.prog 128 sPlcEdge := spec1 tabOk (ss := [(127, sPlcCell), (82, sPlcSide), (124, sToward)]) ⟨okPlcCell, okPlcSide, okToward, trivial⟩ rfl rfl <| by
  intro (bs : Th (List Int)) (p : Th Int) ⟨(m : Th PMap), (a : Th Int), (s : Th Int), u⟩ K _ _ ho h
  obtain ⟨m, rfl⟩ := th_ex m; obtain ⟨a, rfl⟩ := th_ex a; obtain ⟨s, rfl⟩ := th_ex s
  have hb := okI (ho.2.1 _ (.head _))
  refine ⟨noAnn, noAnn, 20, ?_⟩
  have hs := @plcSide_ne m (plcCell m a) s
  have hc := @plcCell_ne m a
  have he := @edge_eq m a s
  have hi := plcOk_iff (m := m)
  have hm := plc_mul (m := m)
  cbv
  repeat' first | ((with_reducible intro _); cbv) | ((with_reducible show _ ∧ _); (with_reducible apply And.intro))
  all_goals first | (refine retK h ?_; clear h; simp only [fin0]) | (with_reducible refine Ob.mk ?_; clear h) | (clear h)
  all_goals (try simp only [eta0, RT.bytes] at *)
  · grind
  · rename_i h1 h2
    have h1 : plcSide m (plcCell m a) s ≠ -1 := by simpa using h2
    have hw : IntKind.i64.wrap (a + (2 * s - 1)) = a + (2 * s - 1) := by grind [wrap_id]
    rw [hw]
    simp only [plcEdge, h1, ne_eq, not_false_eq_true, true_and, decide_eq_decide]
    exact he h1
  · grind [plcEdge]
  · grind [plcEdge]
theorem okSPlcEdge : SpecOk1 Tryz.prog 104 sPlcEdge := spec1 tabOk (ss := [(103, sPlcCell), (48, sPlcSide)]) ⟨okSPlcCell, okSPlcSide, trivial⟩ rfl rfl <| by
  intro (bs : Th (List Int)) (p : Th Int) ⟨(m : Th PMap), (a : Th Int), (s : Th Int), u⟩ K _ _ _ h
  obtain ⟨m, rfl⟩ := th_ex m; obtain ⟨a, rfl⟩ := th_ex a; obtain ⟨s, rfl⟩ := th_ex s
  refine ⟨noAnn, noAnn, 20, ?_⟩
  have hs := @plcSide_ne m (plcCell m a) s
  have hc := @plcCell_ne m a
  have hi := plcOk_iff (m := m)
  have hm := plc_mul (m := m)
  have hd := @plcCell_mul m a
  cbv
  repeat' first | ((with_reducible intro _); cbv) | ((with_reducible show _ ∧ _); (with_reducible apply And.intro))
  all_goals first | (refine retK h ?_; clear h; simp only [fin0]) | (with_reducible refine Ob.mk ?_; clear h) | (clear h)
  all_goals (try simp only [eta0, RT.bytes] at *)
  all_goals grind [plcEdge, wrap_id]

theorem okRanged : SpecOk1 Tryz.prog 164 sRanged := spec1 tabOk (ss := [(55, sIn), (53, sIsWalker)]) ⟨okIn, okIsWalker, trivial⟩ rfl rfl <| by
  intro (bs : Th (List Int)) (p : Th Int) ⟨(w : Th Wlk), u⟩ K _ _ _ h
  obtain ⟨w, rfl⟩ := th_ex w
  refine ⟨noAnn, noAnn, 20, ?_⟩
  cbv
  repeat' first | ((with_reducible intro _); cbv) | ((with_reducible show _ ∧ _); (with_reducible apply And.intro))
  all_goals first | (refine retK h ?_; clear h; simp only [fin0]) | (with_reducible refine Ob.mk ?_; clear h) | (clear h)
  all_goals (try simp only [eta0, RT.bytes] at *)
  all_goals grind [inR, wlkRanged]
theorem okWlkOk : SpecOk1 Tryz.prog 126 sWlkOk := spec1 tabOk (ss := [(127, sPlcCell), (164, sRanged)]) ⟨okPlcCell, okRanged, trivial⟩ rfl rfl <| by
  intro (bs : Th (List Int)) (p : Th Int) ⟨(m : Th PMap), (w : Th Wlk), u⟩ K _ _ _ h
  obtain ⟨m, rfl⟩ := th_ex m; obtain ⟨w, rfl⟩ := th_ex w
  refine ⟨noAnn, noAnn, 20, ?_⟩
  cbv
  repeat' first | ((with_reducible intro _); cbv) | ((with_reducible show _ ∧ _); (with_reducible apply And.intro))
  all_goals first | (refine retK h ?_; clear h; simp only [fin0]) | (with_reducible refine Ob.mk ?_; clear h) | (clear h)
  all_goals (try simp only [eta0, RT.bytes] at *)
  all_goals grind [wlkOk, wlkRanged]
theorem okSWlkOk : SpecOk1 Tryz.prog 102 sWlkOk := spec1 tabOk (ss := [(103, sPlcCell), (47, sIn)]) ⟨okSPlcCell, okL1In, trivial⟩ rfl rfl <| by
  intro (bs : Th (List Int)) (p : Th Int) ⟨(m : Th PMap), (w : Th Wlk), u⟩ K _ _ _ h
  obtain ⟨m, rfl⟩ := th_ex m; obtain ⟨w, rfl⟩ := th_ex w
  refine ⟨noAnn, noAnn, 20, ?_⟩
  cbv
  repeat' first | ((with_reducible intro _); cbv) | ((with_reducible show _ ∧ _); (with_reducible apply And.intro))
  all_goals first | (refine retK h ?_; clear h; simp only [fin0]) | (with_reducible refine Ob.mk ?_; clear h) | (clear h)
  all_goals (try simp only [eta0, RT.bytes] at *)
  all_goals grind [wlkOk, inR]

end Go.Proofs.YtfgphaokmjdcbaaGreat

/-
  Contracts: walkers' lists.
-/
namespace Go.Proofs.YtfgphaokmjdcbaaGreat
open Go.Sx Go.Proofs Go.Mo
set_option maxRecDepth 100000
set_option maxHeartbeats 8000000
set_option linter.unusedSimpArgs false
set_option linter.unusedVariables false

theorem okSWlkListOk : SpecOk1 Tryz.prog 172 sWlkListOkS := spec1 tabOk (ss := [(102, sWlkOk)]) ⟨okSWlkOk, trivial⟩ rfl rfl <| by
  intro (bs : Th (List Int)) (p : Th Int) ⟨(m : Th PMap), (l : Th (List Wlk)), u⟩ K _ _ ho h
  obtain ⟨m, rfl⟩ := th_ex m; obtain ⟨l, rfl⟩ := th_ex l
  have hl := okL (ho.2.1 _ (.head _))
  refine ⟨annL [(172, 2, ⟨Nat, [], fun σ k => σ.t 5 (vI fun _ => (k : Int)), fun _ k _ => k ≤ l.length ∧ allTo k (wlkAt m l) = true, fun _ k _ => l.length - k⟩)], noAnn, 20, ?_⟩
  cbv
  repeat' first | ((with_reducible refine fun (k : Nat) => ?_); cbv) | ((with_reducible intro _); cbv) | ((with_reducible show _ ∧ _); (with_reducible apply And.intro))
  all_goals try ((first | (with_reducible refine LoopIn.mk ((0 : Nat)) ?_ ?_) | (with_reducible refine LoopBack.mk ((k + 1 : Nat)) ?_ ?_ ?_)) )
  all_goals try ((with_reducible show matchSt _ _); cbv; (try simp only [and_true, true_and]))
  all_goals try (with_reducible show _ ∧ _; (repeat' (with_reducible apply And.intro)))
  all_goals first | (refine retK h ?_; clear h; simp only [fin0]) | (with_reducible refine Ob.mk ?_; clear h) | (clear h)
  all_goals (try simp only [eta0, RT.bytes] at *)
  all_goals grind [allTo_zero, allTo_succ, wlkAt, wlkAll, wrap_pred, wrap_succ, wlkAll_bad, wlkAll_bad2]

end Go.Proofs.YtfgphaokmjdcbaaGreat
