/-
  Contracts: walkers' lists.
-/
import Derived.Test.YtfdohbjamanomaaGreatFnA
set_option linter.unusedVariables false
set_option linter.unusedSimpArgs false
namespace Go.Proofs.YtfdohbjamanomaaGreat
open Go.Sx Go.Proofs Go.Mo
set_option maxRecDepth 100000
set_option maxHeartbeats 8000000
set_option linter.unusedSimpArgs false
set_option linter.unusedVariables false

theorem okWlkListOk : SpecOk1 Tryz.prog 78 sWlkListOkI := spec1 tabOk (ss := [(108, sWlkOk), (58, sPlcOk)]) ⟨okWlkOk, okPlcOk, trivial⟩ rfl rfl <| by
  intro (bs : Th (List Int)) (p : Th Int) ⟨(m : Th PMap), (l : Th (List Wlk)), u⟩ K _ _ ho h
  obtain ⟨m, rfl⟩ := th_ex m; obtain ⟨l, rfl⟩ := th_ex l
  have hl := okL (ho.2.1 _ (.head _))
  refine ⟨annL [(78, 2, ⟨Nat, [], fun σ k => σ.t 9 (vI fun _ => (k : Int)), fun _ k _ => k ≤ l.length ∧ allTo k (wlkAt m l) = true, fun _ k _ => l.length - k⟩)], noAnn, 20, ?_⟩
  cbv
  repeat' first | ((with_reducible refine fun (k : Nat) => ?_); cbv) | ((with_reducible refine fun (q : Nat × Unit) => ?_); obtain ⟨s, _⟩ := q; cbv) | ((with_reducible refine fun (q : Nat × Nat) => ?_); obtain ⟨s, k⟩ := q; cbv) | ((with_reducible intro _); cbv) | ((with_reducible show _ ∧ _); (with_reducible apply And.intro))
  all_goals try ((first | (with_reducible refine LoopIn.mk ((0 : Nat)) ?_ ?_) | (with_reducible refine LoopBack.mk ((k + 1 : Nat)) ?_ ?_ ?_)) )
  all_goals try ((with_reducible show matchSt _ _); cbv; (try simp only [and_true, true_and]))
  all_goals try (with_reducible show _ ∧ _; (repeat' (with_reducible apply And.intro)))
  all_goals first | (refine retK h ?_; clear h; simp only [fin0]) | (with_reducible refine Ob.mk ?_; clear h) | (clear h)
  all_goals (try simp only [eta0, RT.bytes] at *)
  all_goals grind [allTo_zero, allTo_succ, wlkAt, wlkAll, wrap_pred, wrap_succ, wlkAll_bad, wlkAll_bad2]
theorem okSWlkListOk : SpecOk1 Tryz.prog 65 sWlkListOkS := spec1 tabOk (ss := [(109, sWlkOk)]) ⟨okSWlkOk, trivial⟩ rfl rfl <| by
  intro (bs : Th (List Int)) (p : Th Int) ⟨(m : Th PMap), (l : Th (List Wlk)), u⟩ K _ _ ho h
  obtain ⟨m, rfl⟩ := th_ex m; obtain ⟨l, rfl⟩ := th_ex l
  have hl := okL (ho.2.1 _ (.head _))
  refine ⟨annL [(65, 2, ⟨Nat, [], fun σ k => σ.t 5 (vI fun _ => (k : Int)), fun _ k _ => k ≤ l.length ∧ allTo k (wlkAt m l) = true, fun _ k _ => l.length - k⟩)], noAnn, 20, ?_⟩
  cbv
  repeat' first | ((with_reducible refine fun (k : Nat) => ?_); cbv) | ((with_reducible refine fun (q : Nat × Unit) => ?_); obtain ⟨s, _⟩ := q; cbv) | ((with_reducible refine fun (q : Nat × Nat) => ?_); obtain ⟨s, k⟩ := q; cbv) | ((with_reducible intro _); cbv) | ((with_reducible show _ ∧ _); (with_reducible apply And.intro))
  all_goals try ((first | (with_reducible refine LoopIn.mk ((0 : Nat)) ?_ ?_) | (with_reducible refine LoopBack.mk ((k + 1 : Nat)) ?_ ?_ ?_)) )
  all_goals try ((with_reducible show matchSt _ _); cbv; (try simp only [and_true, true_and]))
  all_goals try (with_reducible show _ ∧ _; (repeat' (with_reducible apply And.intro)))
  all_goals first | (refine retK h ?_; clear h; simp only [fin0]) | (with_reducible refine Ob.mk ?_; clear h) | (clear h)
  all_goals (try simp only [eta0, RT.bytes] at *)
  all_goals grind [allTo_zero, allTo_succ, wlkAt, wlkAll, wrap_pred, wrap_succ, wlkAll_bad, wlkAll_bad2]

end Go.Proofs.YtfdohbjamanomaaGreat
