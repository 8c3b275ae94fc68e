/-
  Lists that are too long for the laws of what came in.
-/
import Derived.Test.YtjgijoageljjgaaGreatFpC
import Derived.Test.YtjgijoageljjgaaGreatLwX
set_option linter.unusedVariables false
set_option linter.unusedSimpArgs false
namespace Go.Mo
open Go.Sx
theorem mem_usumL {x : List Unit} : ∀ {l : List (List Unit)}, x ∈ l → x.length ≤ usumL l
  | y :: l, h => by
    rcases List.mem_cons.1 h with rfl | h
    · simp only [usumL]; omega
    · have := mem_usumL h
      simp only [usumL]; omega
theorem big_C {c : LCll} (h : ¬ fitC c) : 1048576 < cntC c := by
  refine Nat.lt_of_not_le fun hle => h ?_
  unfold cntC at hle
  refine ⟨?_, ⟨?_, fun x hx => ?_⟩, ?_, ?_⟩
  · show c.wlks.length ≤ _; omega
  · omega
  · have := mem_usumL hx; omega
  · show c.next.length ≤ _; omega
  · show c.ins.length ≤ _; omega
theorem big_S {c : LSto} (h : ¬ fitS c) : 1048576 < cntS c := by
  refine Nat.lt_of_not_le fun hle => h ?_
  unfold cntS at hle
  refine ⟨?_, ?_⟩
  · by_cases hc : fitC c.base
    · exact hc
    · have := big_C hc; omega
  · show c.recs.length ≤ _; omega
theorem big_H {c : LHld} (h : ¬ fitH c) : 1048576 < cntC c.state := big_C h
theorem big_L {l : List Unit} (h : ¬ fitK .long l) : 1048576 < l.length := Nat.lt_of_not_le fun hle => h hle
end Go.Mo
