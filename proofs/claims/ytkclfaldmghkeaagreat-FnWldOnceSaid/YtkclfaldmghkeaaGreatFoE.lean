/-
  Contracts: a record written at a store's end, by the program.
-/
import Derived.Test.YtkclfaldmghkeaaGreatFoHs
import Derived.Test.YtkclfaldmghkeaaGreatM2
set_option linter.unusedVariables false
set_option linter.unusedSimpArgs false
set_option maxRecDepth 100000
set_option maxHeartbeats 16000000
namespace Go.Proofs.YtkclfaldmghkeaaGreat
open Go.Sx Go.Proofs Go.Mo
theorem b8p {m : PMap} {s : Sto} {a b : Int} {r : Sx.Rec} (h : x8 m s = true) : (¬ a = s.age → u7 m s a b r = ⟨s, 2⟩) ∧ (a = s.age → ¬ b = (s.recs.length : Int) ∨ b = 250 → u7 m s a b r = ⟨s, 3⟩) ∧
  (a = s.age → b = (s.recs.length : Int) → ¬ b = 250 → D1 m r = false → u7 m s a b r = ⟨s, 4⟩) ∧ (a = s.age → b = (s.recs.length : Int) → ¬ b = 250 → (j7 m (p5 m s) r).ok = false → u7 m s a b r = ⟨s, 4⟩) ∧
  (a = s.age → b = (s.recs.length : Int) → ¬ b = 250 → D1 m r = true → (j7 m (p5 m s) r).ok = true → u7 m s a b r = ⟨⟨s.age, s.base, s.recs ++ [r]⟩, 1⟩) := by
 rw [a0p h]
 unfold G4
 refine ⟨fun h1 => if_pos h1, fun h1 h2 => ?_, fun h1 h2 h3 h4 => ?_, fun h1 h2 h3 h4 => ?_, fun h1 h2 h3 h4 h5 => ?_⟩
 ·rw [if_neg (fun hh => hh h1), if_pos h2]
 ·rw [if_neg (fun hh => hh h1), if_neg (by omega), if_neg (by rw [h4]; rintro ⟨hh, _⟩; cases hh)]
 ·rw [if_neg (fun hh => hh h1), if_neg (by omega), if_neg (by rw [h4]; rintro ⟨_, hh⟩; cases hh)]
 ·rw [if_neg (fun hh => hh h1), if_neg (by omega), if_pos ⟨h4, h5⟩]
end Go.Proofs.YtkclfaldmghkeaaGreat
