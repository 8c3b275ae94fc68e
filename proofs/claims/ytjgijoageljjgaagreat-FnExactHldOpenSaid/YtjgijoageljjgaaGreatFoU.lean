/-
  Contracts: lists and cells compared, whatever comes of it.
-/
import Derived.Test.YtjgijoageljjgaaGreatFnA
import Derived.Test.YtjgijoageljjgaaGreatM2
set_option linter.unusedVariables false
set_option linter.unusedSimpArgs false
namespace Go.Mo
open Go.Sx
/-- The first so many elements are the same. -/
def same (t : RT) (a b : List t.ty) (k : Nat) : Prop := ∀ i, i < k → nth t a i = nth t b i
theorem same_zero (t : RT) (a b : List t.ty) : same t a b 0 := fun i hi => by omega
theorem same_succ {t : RT} {a b : List t.ty} {k : Nat} (h : same t a b k) (hk : nth t a k = nth t b k) : same t a b (k + 1) := fun i hi => by
  rcases Nat.lt_or_ge i k with h1 | h1
  · exact h i h1
  · have : i = k := by omega
    subst this
    exact hk
theorem same_all {t : RT} {a b : List t.ty} {k : Nat} (h : same t a b k) (hl : a.length = b.length) (hk : k = a.length) : a = b := by
  refine List.ext_getElem hl fun i h1 h2 => ?_
  rw [← nth_lt t a i h1, ← nth_lt t b i h2]
  exact h i (by omega)
theorem wlk_ext {a b : Wlk} : a = b ↔ a.id = b.id ∧ a.pos = b.pos ∧ a.coins = b.coins ∧ a.seq = b.seq ∧ a.last = b.last := by
  cases a; cases b; simp
theorem ord_ext {a b : Ord} : a = b ↔ a.who = b.who ∧ a.seq = b.seq ∧ a.kind = b.kind ∧ a.dest = b.dest ∧ a.n = b.n := by
  cases a; cases b; simp
theorem pcl_ext {a b : Pcl} : a = b ↔ a.n = b.n ∧ a.kind = b.kind ∧ a.wlk = b.wlk ∧ a.coins = b.coins := by
  cases a; cases b; simp
theorem rec_ext {a b : Rec} : a = b ↔ a.kind = b.kind ∧ a.ord = b.ord ∧ a.side = b.side ∧ a.pcl = b.pcl ∧ a.n = b.n := by
  cases a; cases b; simp
theorem cll_ext {a b : Cll} : a = b ↔ a.cell = b.cell ∧ a.wlks = b.wlks ∧ a.ground = b.ground ∧ a.outs = b.outs ∧ a.next = b.next ∧ a.ins = b.ins := by
  cases a; cases b; simp
end Go.Mo
namespace Go.Proofs.YtjgijoageljjgaaGreat
open Go.Sx Go.Proofs Go.Mo
set_option maxRecDepth 100000
set_option maxHeartbeats 8000000
set_option linter.unusedSimpArgs false
set_option linter.unusedVariables false

noncomputable def sIsW : Sx.Spec := ⟨false, true, [.list .wlk, .list .wlk], [], fun _ _ ⟨a, b, _⟩ => .ret (vB fun _ => decide (a () = b ()), fun _ => 0)⟩
noncomputable def sIsI : Sx.Spec := ⟨false, true, [.list .int, .list .int], [], fun _ _ ⟨a, b, _⟩ => .ret (vB fun _ => decide (a () = b ()), fun _ => 0)⟩
noncomputable def sIsP : Sx.Spec := ⟨false, true, [.list .pcl, .list .pcl], [], fun _ _ ⟨a, b, _⟩ => .ret (vB fun _ => decide (a () = b ()), fun _ => 0)⟩
noncomputable def sIsR : Sx.Spec := ⟨false, true, [.list .rcd, .list .rcd], [], fun _ _ ⟨a, b, _⟩ => .ret (vB fun _ => decide (a () = b ()), fun _ => 0)⟩
noncomputable def sIsC : Sx.Spec := ⟨false, true, [.row .cll, .row .cll], [], fun _ _ ⟨a, b, _⟩ => .ret (vB fun _ => decide (a () = b ()), fun _ => 0)⟩

end Go.Proofs.YtjgijoageljjgaaGreat

/-
  Contracts: stores compared.
-/
namespace Go.Mo
open Go.Sx
theorem sto_ext {a b : Sto} : a = b ↔ a.age = b.age ∧ a.base = b.base ∧ a.recs = b.recs := by
  cases a; cases b; simp
theorem hld_ext {a b : Hld} : a = b ↔ a.age = b.age ∧ a.count = b.count ∧ a.state = b.state := by
  cases a; cases b; simp
end Go.Mo
namespace Go.Proofs.YtjgijoageljjgaaGreat
open Go.Sx Go.Proofs Go.Mo
set_option maxRecDepth 100000
set_option maxHeartbeats 8000000
set_option linter.unusedSimpArgs false
set_option linter.unusedVariables false

noncomputable def sIsS : Sx.Spec := ⟨false, true, [.row .sto, .row .sto], [], fun _ _ ⟨a, b, _⟩ => .ret (vB fun _ => decide (a () = b ()), fun _ => 0)⟩
noncomputable def sIsH : Sx.Spec := ⟨false, true, [.row .hld, .row .hld], [], fun _ _ ⟨a, b, _⟩ => .ret (vB fun _ => decide (a () = b ()), fun _ => 0)⟩
end Go.Proofs.YtjgijoageljjgaaGreat
