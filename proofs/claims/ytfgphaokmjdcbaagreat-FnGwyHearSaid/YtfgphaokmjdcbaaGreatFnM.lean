/-
  Contracts: records one behind the other.
-/
import Derived.Test.YtfgphaokmjdcbaaGreatFnFb
import Derived.Test.YtfgphaokmjdcbaaGreatFnF
import Derived.Test.YtfgphaokmjdcbaaGreatFnK
import Derived.Test.YtfgphaokmjdcbaaGreatM1
set_option linter.unusedVariables false
set_option linter.unusedSimpArgs false
namespace Go.Proofs.YtfgphaokmjdcbaaGreat
open Go.Sx Go.Proofs Go.Mo
set_option maxRecDepth 100000
set_option maxHeartbeats 16000000
set_option linter.unusedSimpArgs false
set_option linter.unusedVariables false

theorem kind_cell {m : PMap} {c : Cll} {i : Nat} {w : Wlk} {o : Sx.Ord} : (doKind m c i w o).c.cell = c.cell := by
  unfold doKind doStep doGive doDrop doPick doThrow cllFin
  repeat' split
  all_goals rfl
theorem apply_cell {m : PMap} {c : Cll} {r : Sx.Rec} : (cllApply m c r).c.cell = c.cell := by
  unfold cllApply
  split
  · split
    · unfold cllDo
      split
      · rfl
      dsimp only
      split
      · rfl
      split
      · rfl
      exact kind_cell
    · rfl
  split
  · rfl
  split
  · unfold cllRecv
    repeat' split
    all_goals rfl
  · unfold cllRel
    split <;> rfl
end Go.Proofs.YtfgphaokmjdcbaaGreat
