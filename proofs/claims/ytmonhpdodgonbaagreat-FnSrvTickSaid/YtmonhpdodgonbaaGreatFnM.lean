/-
  Contracts: records one behind the other.
-/
import Derived.Test.YtmonhpdodgonbaaGreatFnFb
import Derived.Test.YtmonhpdodgonbaaGreatGnF
import Derived.Test.YtmonhpdodgonbaaGreatFnK
import Derived.Test.YtmonhpdodgonbaaGreatM1
set_option linter.unusedVariables false
set_option linter.unusedSimpArgs false
namespace Go.Proofs.YtmonhpdodgonbaaGreat
open Go.Sx Go.Proofs Go.Mo
set_option maxRecDepth 100000
set_option maxHeartbeats 16000000
set_option linter.unusedSimpArgs false
set_option linter.unusedVariables false

noncomputable def sFold : Sx.Spec := ⟨false, true, [.map, .row .cll, .list .rcd], [nCll, [none]], fun _ _ ⟨m, c, l, _⟩ => .asrt (fun _ => cllOk (m ()) (c ()) = true ∧ (l ()).length ≤ 250) (.ret (.tup [oCll fun _ => foldC (m ()) (c ()) (l ()), vI fun _ => (foldN (m ()) (c ()) (l ()) : Int)], fun _ => 0))⟩

theorem kind_cell {m : PMap} {c : Cll} {i : Nat} {w : Wlk} {o : Sx.Ord} : (doKind m c i w o).c.cell = c.cell := by
  unfold doKind doStep doGive doDrop doPick doThrow cllFin
  repeat' split
  all_goals rfl
theorem apply_cell {m : PMap} {c : Cll} {r : Sx.Rec} : (cllApply m c r).c.cell = c.cell := by
  unfold cllApply
  split
  · split
    · unfold cllDo
      split
      · rfl
      dsimp only
      split
      · rfl
      split
      · rfl
      exact kind_cell
    · rfl
  split
  · rfl
  split
  · unfold cllRecv
    repeat' split
    all_goals rfl
  · unfold cllRel
    split <;> rfl
theorem fold_cell (m : PMap) (c : Cll) (l : List Sx.Rec) (k : Nat) : (foldTo m c l k).cell = (foldTo m c l (k + 1)).cell := by rw [foldTo_succ, apply_cell]

end Go.Proofs.YtmonhpdodgonbaaGreat
