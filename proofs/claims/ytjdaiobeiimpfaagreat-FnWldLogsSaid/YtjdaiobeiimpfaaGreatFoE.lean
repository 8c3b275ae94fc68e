/-
  Contracts: a record written at a store's end, by the program.
-/
import Derived.Test.YtjdaiobeiimpfaaGreatFoHs
import Derived.Test.YtjdaiobeiimpfaaGreatM2
set_option linter.unusedVariables false
set_option linter.unusedSimpArgs false
set_option maxRecDepth 100000
set_option maxHeartbeats 16000000
namespace Go.Proofs.YtjdaiobeiimpfaaGreat
open Go.Sx Go.Proofs Go.Mo
theorem append_eqs {m : PMap} {s : Sto} {a b : Int} {r : Sx.Rec} (h : stoOk m s = true) : (¬ a = s.age → stoAppend m s a b r = ⟨s, 2⟩) ∧ (a = s.age → ¬ b = (s.recs.length : Int) ∨ b = 250 → stoAppend m s a b r = ⟨s, 3⟩) ∧
  (a = s.age → b = (s.recs.length : Int) → ¬ b = 250 → logOk m r = false → stoAppend m s a b r = ⟨s, 4⟩) ∧ (a = s.age → b = (s.recs.length : Int) → ¬ b = 250 → (cllApply m (stoState m s) r).ok = false → stoAppend m s a b r = ⟨s, 4⟩) ∧
  (a = s.age → b = (s.recs.length : Int) → ¬ b = 250 → logOk m r = true → (cllApply m (stoState m s) r).ok = true → stoAppend m s a b r = ⟨⟨s.age, s.base, s.recs ++ [r]⟩, 1⟩) := by
 rw [append_add h]
 unfold stoAdd
 refine ⟨fun h1 => if_pos h1, fun h1 h2 => ?_, fun h1 h2 h3 h4 => ?_, fun h1 h2 h3 h4 => ?_, fun h1 h2 h3 h4 h5 => ?_⟩
 ·rw [if_neg (fun hh => hh h1), if_pos h2]
 ·rw [if_neg (fun hh => hh h1), if_neg (by omega), if_neg (by rw [h4]; rintro ⟨hh, _⟩; cases hh)]
 ·rw [if_neg (fun hh => hh h1), if_neg (by omega), if_neg (by rw [h4]; rintro ⟨_, hh⟩; cases hh)]
 ·rw [if_neg (fun hh => hh h1), if_neg (by omega), if_pos ⟨h4, h5⟩]
end Go.Proofs.YtjdaiobeiimpfaaGreat
