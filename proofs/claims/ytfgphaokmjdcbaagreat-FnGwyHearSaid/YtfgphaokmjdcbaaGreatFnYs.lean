/-
  Contracts: a record done; parcels let go.
-/
import Derived.Test.YtfgphaokmjdcbaaGreatFnFb
import Derived.Test.YtfgphaokmjdcbaaGreatFnF
import Derived.Test.YtfgphaokmjdcbaaGreatFnK
import Derived.Test.YtfgphaokmjdcbaaGreatM2
import Derived.Test.YtfgphaokmjdcbaaGreatM1
set_option linter.unusedVariables false
set_option linter.unusedSimpArgs false
namespace Go.Proofs.YtfgphaokmjdcbaaGreat
open Go.Sx Go.Proofs Go.Mo
set_option maxRecDepth 100000
set_option maxHeartbeats 16000000
set_option linter.unusedSimpArgs false
set_option linter.unusedVariables false

end Go.Proofs.YtfgphaokmjdcbaaGreat

/-
  Contracts: logs folded by the document.
-/
namespace Go.Proofs.YtfgphaokmjdcbaaGreat
open Go.Sx Go.Proofs Go.Mo
set_option maxRecDepth 100000
set_option maxHeartbeats 8000000
set_option linter.unusedSimpArgs false
set_option linter.unusedVariables false

noncomputable def sLogFold : Sx.Spec := ⟨false, true, [.map, .row .cll, .list .rcd], [nCll, [none]], fun _ _ ⟨m, c, l, _⟩ => .ret (.tup [oCll fun _ => (logFold (m ()) (c ()) (l ())).c, vI fun _ => (logFold (m ()) (c ()) (l ())).n], fun _ => 0)⟩
theorem applyL_fit {m : PMap} {c : Cll} {l : List Sx.Rec} {k : Nat} : (cllApplyL m (foldTo m c l k) (nth .rcd l k)).ok = fitAt m c l k := by
  unfold cllApplyL fitAt
  split <;> simp_all
theorem applyL_succ {m : PMap} {c : Cll} {l : List Sx.Rec} {k : Nat} (h : (cllApplyL m (foldTo m c l k) (nth .rcd l k)).ok = true) : (cllApplyL m (foldTo m c l k) (nth .rcd l k)).c = foldTo m c l (k + 1) := by
  unfold cllApplyL at *
  split
  · rw [foldTo_succ]
  · rename_i hh
    rw [if_neg hh] at h
    cases h

theorem logFold_at {m : PMap} {c : Cll} {l : List Sx.Rec} {k : Nat} (h : cllOk m c = true) (hl : l.length ≤ 250) (hk : k < l.length) (ha : allTo k (fitAt m c l) = true) (hf : fitAt m c l k = false) : logFold m c l = ⟨foldTo m c l k, k⟩ := by
  rw [logFold, if_pos ⟨h, hl⟩, foldC, foldN_at hk ha hf]
theorem logFold_all {m : PMap} {c : Cll} {l : List Sx.Rec} {k : Nat} (h : cllOk m c = true) (hl : l.length ≤ 250) (hk : k = l.length) (ha : allTo k (fitAt m c l) = true) : logFold m c l = ⟨foldTo m c l k, k⟩ := by
  rw [logFold, if_pos ⟨h, hl⟩, foldC, foldN_all hk ha]
theorem logFold_bad {m : PMap} {c : Cll} {l : List Sx.Rec} (h : cllOk m c = false ∨ 250 < l.length) : logFold m c l = ⟨zeroC, 0⟩ := by
  rw [logFold, if_neg]
  rintro ⟨h1, h2⟩
  rcases h with h | h
  · rw [h] at h1
    cases h1
  · omega

end Go.Proofs.YtfgphaokmjdcbaaGreat
