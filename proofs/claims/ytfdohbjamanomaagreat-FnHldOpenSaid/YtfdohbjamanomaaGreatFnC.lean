/-
  Contracts: walkers found, left out.
-/
import Derived.Test.YtfdohbjamanomaaGreatFnA
import Derived.Test.YtfdohbjamanomaaGreatM1
set_option linter.unusedVariables false
set_option linter.unusedSimpArgs false
namespace Go.Proofs.YtfdohbjamanomaaGreat
open Go.Sx Go.Proofs Go.Mo
set_option maxRecDepth 100000
set_option maxHeartbeats 8000000
set_option linter.unusedSimpArgs false
set_option linter.unusedVariables false

noncomputable def sWlkOut : Sx.Spec := ⟨false, true, [.list .wlk, .int .i64], [[some .wlk]], fun _ _ ⟨l, i, _⟩ => .ret (vW .wlk fun _ => wlkOut (l ()) (i ()), fun _ => 0)⟩
noncomputable def sCloneW : Sx.Spec := ⟨false, true, [.list .wlk], [[some .wlk]], fun _ _ ⟨l, _⟩ => .ret (vW .wlk fun _ => l (), fun _ => 0)⟩
noncomputable def sPlace : Sx.Spec := ⟨false, true, [.list .wlk, .int .i64], [], fun _ _ ⟨l, i, _⟩ => .ret (vI fun _ => wlkPlace (l ()) (i ()), fun _ => 0)⟩
noncomputable def sWlkFind : Sx.Spec := ⟨false, true, [.list .wlk, .int .i64], [], fun _ _ ⟨l, i, _⟩ => .ret (.tup [oWlk fun _ => wlkFind (l ()) (i ()), vB fun _ => wlkHas (l ()) (i ())], fun _ => 0)⟩

theorem okWlkOut : SpecOk1 Tryz.prog 115 sWlkOut := spec1 tabOk (ss := []) trivial rfl rfl <| by
  intro (bs : Th (List Int)) (p : Th Int) ⟨(l : Th (List Wlk)), (i : Th Int), u⟩ K _ _ ho h
  obtain ⟨l, rfl⟩ := th_ex l; obtain ⟨i, rfl⟩ := th_ex i
  have hl := okB (ho.1 _ (.head _))
  have hz := wlkOutTo_len l i
  refine ⟨annL [(115, 3, ⟨Nat, [⟨.tmp 5 0, some 22, .wlk⟩], fun σ k => ((σ.t 10 (vI fun _ => (k : Int))).t 5 (vO 22 1)).row 22 1 .wlk (fun _ => wlkOutTo l i k), fun _ k _ => k ≤ l.length, fun _ k _ => l.length - k⟩)], noAnn, 20, ?_⟩
  cbv
  repeat' first | ((with_reducible refine fun (k : Nat) => ?_); cbv) | ((with_reducible refine fun (q : Nat × Unit) => ?_); obtain ⟨s, _⟩ := q; cbv) | ((with_reducible refine fun (q : Nat × Nat) => ?_); obtain ⟨s, k⟩ := q; cbv) | ((with_reducible intro _); cbv) | ((with_reducible show _ ∧ _); (with_reducible apply And.intro))
  all_goals try ((first | (with_reducible refine LoopIn.mk ((0 : Nat)) ?_ ?_) | (with_reducible refine LoopBack.mk ((k + 1 : Nat)) ?_ ?_ ?_)) )
  all_goals try ((with_reducible show matchSt _ _); cbv; (try simp only [and_true, true_and]))
  all_goals try (with_reducible show _ ∧ _; (repeat' (with_reducible apply And.intro)))
  all_goals first | (refine retK h ?_; clear h; simp only [fin0]) | (with_reducible refine Ob.mk ?_; clear h) | (clear h)
  all_goals (try simp only [eta0, RT.bytes] at *)
  all_goals grind [wlkOutTo_zero, wlkOutTo_all, wlkOutTo_yes, wlkOutTo_no, wrap_succ]
theorem okSWlkOut : SpecOk1 Tryz.prog 141 sWlkOut := spec1 tabOk (ss := []) trivial rfl rfl <| by
  intro (bs : Th (List Int)) (p : Th Int) ⟨(l : Th (List Wlk)), (i : Th Int), u⟩ K _ _ ho h
  obtain ⟨l, rfl⟩ := th_ex l; obtain ⟨i, rfl⟩ := th_ex i
  have hl := okB (ho.1 _ (.head _))
  have hz := wlkOutTo_len l i
  refine ⟨annL [(141, 3, ⟨Nat, [⟨.tmp 5 0, some 8, .wlk⟩], fun σ k => (((σ.fg 8).t 6 (vI fun _ => (k : Int))).t 5 (vO 8 1)).row 8 1 .wlk (fun _ => wlkOutTo l i k), fun _ k _ => k ≤ l.length, fun _ k _ => l.length - k⟩)], noAnn, 20, ?_⟩
  cbv
  repeat' first | ((with_reducible refine fun (k : Nat) => ?_); cbv) | ((with_reducible refine fun (q : Nat × Unit) => ?_); obtain ⟨s, _⟩ := q; cbv) | ((with_reducible refine fun (q : Nat × Nat) => ?_); obtain ⟨s, k⟩ := q; cbv) | ((with_reducible intro _); cbv) | ((with_reducible show _ ∧ _); (with_reducible apply And.intro))
  all_goals try ((first | (with_reducible refine LoopIn.mk ((0 : Nat)) ?_ ?_) | (with_reducible refine LoopBack.mk ((k + 1 : Nat)) ?_ ?_ ?_)) )
  all_goals try ((with_reducible show matchSt _ _); cbv; (try simp only [and_true, true_and]))
  all_goals try (with_reducible show _ ∧ _; (repeat' (with_reducible apply And.intro)))
  all_goals first | (refine retK h ?_; clear h; simp only [fin0]) | (with_reducible refine Ob.mk ?_; clear h) | (clear h)
  all_goals (try simp only [eta0, RT.bytes] at *)
  all_goals grind [wlkOutTo_zero, wlkOutTo_all, wlkOutTo_yes, wlkOutTo_no, wrap_succ]
theorem okCloneW : SpecOk1 Tryz.prog 99 sCloneW := spec1 tabOk (ss := []) trivial rfl rfl <| by
  intro (bs : Th (List Int)) (p : Th Int) ⟨(l : Th (List Wlk)), u⟩ K _ _ ho h
  obtain ⟨l, rfl⟩ := th_ex l
  have hl := okB (ho.1 _ (.head _))
  refine ⟨noAnn, noAnn, 20, ?_⟩
  cbv
  repeat' first | ((with_reducible refine fun (k : Nat) => ?_); cbv) | ((with_reducible refine fun (q : Nat × Unit) => ?_); obtain ⟨s, _⟩ := q; cbv) | ((with_reducible refine fun (q : Nat × Nat) => ?_); obtain ⟨s, k⟩ := q; cbv) | ((with_reducible intro _); cbv) | ((with_reducible show _ ∧ _); (with_reducible apply And.intro))
  all_goals first | (refine retK h ?_; clear h; simp only [fin0]) | (with_reducible refine Ob.mk ?_; clear h) | (clear h)
  all_goals (try simp only [eta0, RT.bytes] at *)
  all_goals grind
theorem okL2Copy : SpecOk1 Tryz.prog 122 sCloneW := spec1 tabOk (ss := []) trivial rfl rfl <| by
  intro (bs : Th (List Int)) (p : Th Int) ⟨(l : Th (List Wlk)), u⟩ K _ _ ho h
  obtain ⟨l, rfl⟩ := th_ex l
  have hl := okB (ho.1 _ (.head _))
  refine ⟨noAnn, noAnn, 20, ?_⟩
  cbv
  repeat' first | ((with_reducible refine fun (k : Nat) => ?_); cbv) | ((with_reducible refine fun (q : Nat × Unit) => ?_); obtain ⟨s, _⟩ := q; cbv) | ((with_reducible refine fun (q : Nat × Nat) => ?_); obtain ⟨s, k⟩ := q; cbv) | ((with_reducible intro _); cbv) | ((with_reducible show _ ∧ _); (with_reducible apply And.intro))
  all_goals first | (refine retK h ?_; clear h; simp only [fin0]) | (with_reducible refine Ob.mk ?_; clear h) | (clear h)
  all_goals (try simp only [eta0, RT.bytes] at *)
  all_goals grind
theorem okPlace : SpecOk1 Tryz.prog 112 sPlace := spec1 tabOk (ss := []) trivial rfl rfl <| by
  intro (bs : Th (List Int)) (p : Th Int) ⟨(l : Th (List Wlk)), (i : Th Int), u⟩ K _ _ ho h
  obtain ⟨l, rfl⟩ := th_ex l; obtain ⟨i, rfl⟩ := th_ex i
  have hl := okL (ho.1 _ (.head _))
  refine ⟨annL [(136, 2, ⟨Nat, [], fun σ k => σ.t 8 (vI fun _ => (k : Int)), fun _ k _ => k ≤ l.length ∧ allTo k (nid l i) = true, fun _ k _ => l.length - k⟩)], noAnn, 20, ?_⟩
  cbv
  repeat' first | ((with_reducible refine fun (k : Nat) => ?_); cbv) | ((with_reducible refine fun (q : Nat × Unit) => ?_); obtain ⟨s, _⟩ := q; cbv) | ((with_reducible refine fun (q : Nat × Nat) => ?_); obtain ⟨s, k⟩ := q; cbv) | ((with_reducible intro _); cbv) | ((with_reducible show _ ∧ _); (with_reducible apply And.intro))
  all_goals try ((first | (with_reducible refine LoopIn.mk ((0 : Nat)) ?_ ?_) | (with_reducible refine LoopBack.mk ((k + 1 : Nat)) ?_ ?_ ?_)) )
  all_goals try ((with_reducible show matchSt _ _); cbv; (try simp only [and_true, true_and]))
  all_goals try (with_reducible show _ ∧ _; (repeat' (with_reducible apply And.intro)))
  all_goals first | (refine retK h ?_; clear h; simp only [fin0]) | (with_reducible refine Ob.mk ?_; clear h) | (clear h)
  all_goals (try simp only [eta0, RT.bytes] at *)
  all_goals grind [allTo_zero, allTo_succ, nid, isId, place_at, place_none, wrap_succ]
theorem okWlkFind : SpecOk1 Tryz.prog 118 sWlkFind := spec1 tabOk (ss := [(112, sPlace)]) ⟨okPlace, trivial⟩ rfl rfl <| by
  intro (bs : Th (List Int)) (p : Th Int) ⟨(l : Th (List Wlk)), (i : Th Int), u⟩ K _ _ ho h
  obtain ⟨l, rfl⟩ := th_ex l; obtain ⟨i, rfl⟩ := th_ex i
  have hp := place_lt l i
  refine ⟨noAnn, noAnn, 20, ?_⟩
  cbv
  repeat' first | ((with_reducible refine fun (k : Nat) => ?_); cbv) | ((with_reducible refine fun (q : Nat × Unit) => ?_); obtain ⟨s, _⟩ := q; cbv) | ((with_reducible refine fun (q : Nat × Nat) => ?_); obtain ⟨s, k⟩ := q; cbv) | ((with_reducible intro _); cbv) | ((with_reducible show _ ∧ _); (with_reducible apply And.intro))
  all_goals first | (refine retK h ?_; clear h; simp only [fin0]) | (with_reducible refine Ob.mk ?_; clear h) | (clear h)
  all_goals (try simp only [eta0, RT.bytes] at *)
  all_goals grind [wlkFind, wlkHas]
theorem okSWlkFind : SpecOk1 Tryz.prog 131 sWlkFind := spec1 tabOk (ss := []) trivial rfl rfl <| by
  intro (bs : Th (List Int)) (p : Th Int) ⟨(l : Th (List Wlk)), (i : Th Int), u⟩ K _ _ ho h
  obtain ⟨l, rfl⟩ := th_ex l; obtain ⟨i, rfl⟩ := th_ex i
  have hl := okL (ho.1 _ (.head _))
  refine ⟨annL [(131, 2, ⟨Nat, [], fun σ k => σ.t 6 (vI fun _ => (k : Int)), fun _ k _ => k ≤ l.length ∧ allTo k (nid l i) = true, fun _ k _ => l.length - k⟩)], noAnn, 20, ?_⟩
  cbv
  repeat' first | ((with_reducible refine fun (k : Nat) => ?_); cbv) | ((with_reducible refine fun (q : Nat × Unit) => ?_); obtain ⟨s, _⟩ := q; cbv) | ((with_reducible refine fun (q : Nat × Nat) => ?_); obtain ⟨s, k⟩ := q; cbv) | ((with_reducible intro _); cbv) | ((with_reducible show _ ∧ _); (with_reducible apply And.intro))
  all_goals try ((first | (with_reducible refine LoopIn.mk ((0 : Nat)) ?_ ?_) | (with_reducible refine LoopBack.mk ((k + 1 : Nat)) ?_ ?_ ?_)) )
  all_goals try ((with_reducible show matchSt _ _); cbv; (try simp only [and_true, true_and]))
  all_goals try (with_reducible show _ ∧ _; (repeat' (with_reducible apply And.intro)))
  all_goals first | (refine retK h ?_; clear h; simp only [fin0]) | (with_reducible refine Ob.mk ?_; clear h) | (clear h)
  all_goals (try simp only [eta0, RT.bytes] at *)
  all_goals grind [allTo_zero, allTo_succ, nid, isId, place_at, place_none, wrap_succ, wlkFind, wlkHas]

end Go.Proofs.YtfdohbjamanomaaGreat
