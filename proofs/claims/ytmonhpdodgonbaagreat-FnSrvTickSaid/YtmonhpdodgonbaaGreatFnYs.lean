/-
  Contracts: a record done; parcels let go.
-/
import Derived.Test.YtmonhpdodgonbaaGreatFnFb
import Derived.Test.YtmonhpdodgonbaaGreatGnF
import Derived.Test.YtmonhpdodgonbaaGreatFnK
import Derived.Test.YtmonhpdodgonbaaGreatM2
import Derived.Test.YtmonhpdodgonbaaGreatM1
set_option linter.unusedVariables false
set_option linter.unusedSimpArgs false
namespace Go.Proofs.YtmonhpdodgonbaaGreat
open Go.Sx Go.Proofs Go.Mo
set_option maxRecDepth 100000
set_option maxHeartbeats 16000000
set_option linter.unusedSimpArgs false
set_option linter.unusedVariables false

noncomputable def sFreshX : Sx.Spec := ⟨false, true, [.map, .row .cll, .ord], [], fun _ _ ⟨m, c, o, _⟩ => .ret (vB fun _ => freshX (m ()) (c ()) (o ()), fun _ => 0)⟩
noncomputable def sCllAck : Sx.Spec := ⟨false, true, [.map, .row .cll, .int .i64, .int .i64], [nCll, [none]], fun _ _ ⟨m, c, s, n, _⟩ => .ret (.tup [oCll fun _ => (cllAckX (m ()) (c ()) (s ()) (n ())).c, vB fun _ => (cllAckX (m ()) (c ()) (s ()) (n ())).ok], fun _ => 0)⟩

end Go.Proofs.YtmonhpdodgonbaaGreat

/-
  Contracts: logs folded by the document.
-/
namespace Go.Proofs.YtmonhpdodgonbaaGreat
open Go.Sx Go.Proofs Go.Mo
set_option maxRecDepth 100000
set_option maxHeartbeats 8000000
set_option linter.unusedSimpArgs false
set_option linter.unusedVariables false

noncomputable def sLogFold : Sx.Spec := ⟨false, true, [.map, .row .cll, .list .rcd], [nCll, [none]], fun _ _ ⟨m, c, l, _⟩ => .ret (.tup [oCll fun _ => (logFold (m ()) (c ()) (l ())).c, vI fun _ => (logFold (m ()) (c ()) (l ())).n], fun _ => 0)⟩
noncomputable def sSLogFold : Sx.Spec := ⟨false, false, [.map, .row .cll, .list .rcd], [nCll, [none]], fun _ _ ⟨m, c, l, _⟩ => .ret (.tup [rCll fun _ => (logFold (m ()) (c ()) (l ())).c, vI fun _ => (logFold (m ()) (c ()) (l ())).n], fun _ => 0)⟩

def St.atCll (σ : St) (k : Nat) (c : Th Cll) : St := (((((σ.cellC k 0 (.att (.int .i64 fun _ => (c ()).cell))).cellC k 1 (.att (.list .wlk fun _ => (c ()).wlks))).cellC k 2 (.att (.int .i64 fun _ => (c ()).ground))).cellC k 3 (.att (.list .pcls fun _ => (c ()).outs))).cellC k 4 (.att (.list .int fun _ => (c ()).next))).cellC k 5 (.att (.list .int fun _ => (c ()).ins))
theorem applyL_fit {m : PMap} {c : Cll} {l : List Sx.Rec} {k : Nat} : (cllApplyL m (foldTo m c l k) (nth .rcd l k)).ok = fitAt m c l k := by
  unfold cllApplyL fitAt
  split <;> simp_all
theorem applyL_succ {m : PMap} {c : Cll} {l : List Sx.Rec} {k : Nat} (h : (cllApplyL m (foldTo m c l k) (nth .rcd l k)).ok = true) : (cllApplyL m (foldTo m c l k) (nth .rcd l k)).c = foldTo m c l (k + 1) := by
  unfold cllApplyL at *
  split
  · rw [foldTo_succ]
  · rename_i hh
    rw [if_neg hh] at h
    cases h

theorem logFold_at {m : PMap} {c : Cll} {l : List Sx.Rec} {k : Nat} (h : cllOk m c = true) (hl : l.length ≤ 250) (hk : k < l.length) (ha : allTo k (fitAt m c l) = true) (hf : fitAt m c l k = false) : logFold m c l = ⟨foldTo m c l k, k⟩ := by
  rw [logFold, if_pos ⟨h, hl⟩, foldC, foldN_at hk ha hf]
theorem logFold_all {m : PMap} {c : Cll} {l : List Sx.Rec} {k : Nat} (h : cllOk m c = true) (hl : l.length ≤ 250) (hk : k = l.length) (ha : allTo k (fitAt m c l) = true) : logFold m c l = ⟨foldTo m c l k, k⟩ := by
  rw [logFold, if_pos ⟨h, hl⟩, foldC, foldN_all hk ha]
theorem logFold_bad {m : PMap} {c : Cll} {l : List Sx.Rec} (h : cllOk m c = false ∨ 250 < l.length) : logFold m c l = ⟨zeroC, 0⟩ := by
  rw [logFold, if_neg]
  rintro ⟨h1, h2⟩
  rcases h with h | h
  · rw [h] at h1
    cases h1
  · omega

theorem okSLogFold : SpecOk1 Tryz.prog 124 sSLogFold := spec1 tabOk (ss := [(53, sCllOk), (69, sCloneC), (127, sL6Apply)]) ⟨okSCllOk, okL5Copy, okL6Apply, trivial⟩ rfl rfl <| by
  intro (bs : Th (List Int)) (p : Th Int) ⟨(m : Th PMap), (c : Th Cll), (l : Th (List Sx.Rec)), u⟩ K _ _ ho h
  obtain ⟨m, rfl⟩ := th_ex m; obtain ⟨c, rfl⟩ := th_ex c; obtain ⟨l, rfl⟩ := th_ex l
  refine ⟨annL [(124, 5, ⟨Nat, [⟨.cell 9 1, none, .wlk⟩, ⟨.cell 9 3, none, .pcls⟩, ⟨.cell 9 4, none, .int⟩, ⟨.cell 9 5, none, .int⟩],
    fun σ k => St.atCll (((((((σ.fgs [13569, 13571, 13572, 13573]).h 13569 (1, .dead)).h 13571 (1, .dead)).h 13572 (1, .dead)).h 13573 (1, .dead)).t 24 (.one .unk)).t 9 (vI fun _ => (k : Int))) 9 (fun _ => foldTo m c l k),
    fun _ k _ => k ≤ l.length ∧ l.length ≤ 250 ∧ cllOk m c = true ∧ allTo k (fitAt m c l) = true, fun _ k _ => l.length - k⟩)], noAnn, 20, ?_⟩
  cbv
  repeat' first | ((with_reducible refine fun (k : Nat) => ?_); cbv) | ((with_reducible refine fun (q : Nat × Unit) => ?_); obtain ⟨s, _⟩ := q; cbv) | ((with_reducible refine fun (q : Nat × Nat) => ?_); obtain ⟨s, k⟩ := q; cbv) | ((with_reducible intro _); cbv) | ((with_reducible show _ ∧ _); (with_reducible apply And.intro))
  all_goals try ((first | (with_reducible refine LoopIn.mk ((0 : Nat)) ?_ ?_) | (with_reducible refine LoopBack.mk ((k + 1 : Nat)) ?_ ?_ ?_)) )
  all_goals try ((with_reducible show matchSt _ _); cbv; (try simp only [and_true, true_and]))
  all_goals try (with_reducible show _ ∧ _; (repeat' (with_reducible apply And.intro)))
  all_goals first | (refine retK h ?_; clear h; simp only [fin0]) | (with_reducible refine Ob.mk ?_; clear h) | (clear h)
  all_goals (try simp only [eta0, RT.bytes] at *)
  all_goals grind [zeroC, applyL_fit, applyL_succ, fold_ok, allTo_zero, allTo_succ, wrap_succ, logFold_at, logFold_all, logFold_bad, foldTo_zero]

end Go.Proofs.YtmonhpdodgonbaaGreat
