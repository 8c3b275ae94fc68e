/-
  FnRunFold: a run is its first part, and then the rest: whatever the bytes, the law returns true, and turns nothing that was there.
-/
import Derived.Test.YtiioognflecdgaaGreatFx
import Derived.Test.YtiioognflecdgaaGreatMx
import Derived.Test.YtiioognflecdgaaGreatRows
import Derived.Test.YtiioognflecdgaaGreatGyC
import Derived.Test.YtiioognflecdgaaGreatS5
import Derived.WalkKit
import Derived.ProofKit
import Derived.OpenShut
import Derived.ChangeOld
import Derived.Below
set_option linter.unusedVariables false
set_option linter.unusedSimpArgs false
set_option maxRecDepth 100000
set_option maxHeartbeats 4000000
namespace Go.Proofs.YtiioognflecdgaaGreat
open Go.ChangeShapes Go.WideShapes Go.ChangeAt Go.RowKit
open Go.Sx (a3U)
theorem ownK : ownKnob Tryz.prog.godebug = none := by kernel_rfl
theorem laidOut : laidOutB Tryz.prog = true := by kernel_rfl
theorem a9V (a0 : Option Addr) (l0 c0 : Nat) (w : World) (hl0 : l0 ≤ 9223372036854775807) (h0 : 1048576 < l0) :
  Calls Tryz.prog 4 #[.slice a0 l0 c0] w fun e w' => e = .returned (.bool true) ∧ Below w.heap.size w w' := by
 have u22 := run_underlying Tryz.underlying22
 have h0' : (1048576 : Int) < (l0 : Int) := by omega
 go_enter Tryz.func4, Tryz.ntmps4
 go_wp2
 go_ret
 exact ⟨rfl, Below.refl _ _⟩
theorem a7n (a0 : Option Addr) (l0 c0 : Nat) (z0 : List Int) (w : World) (w0 : a3U .u8 w a0 l0 c0 z0) :
  Calls Tryz.prog 4 #[.slice a0 l0 c0] w fun e w' => e = .returned (.bool true) ∧ Below w.heap.size w w' := by
 have hb : ∀ {a : Option Addr} {l c : Nat} {z : List Int}, a3U .u8 w a l c z → l ≤ 9223372036854775807 := by
  intro a l c z h
  rcases h with ⟨_, rfl, _, _⟩ | ⟨x, _, h1, h2, _⟩
  ·omega
  ·exact Nat.le_trans h1 h2
 by_cases h : 1048576 < l0
 ·exact a9V a0 l0 c0 w (hb w0) h
 ·exact Go.Sx.law1 b4t w0 (by omega)
set_option maxRecDepth 100000 in
theorem a3B (os : Os) (started : os.Started) (H : Type) (enc : TypeId × Value → H) :
  ReturnsInHanded {} Tryz.checked os 4 .any (Rows.fnRunFoldSpec.pre6 enc Tryz.prog Tryz.f4 Rows.fnRunFoldRow.domain false) (Rows.fnRunFoldSpec.post enc Tryz.prog Tryz.f4 false true false false) := by
 refine returnsInHanded_of_change (C := Tryz.checked) ownK started (by kernel_rfl) Tryz.func4
  (ChangeSpec.witness6 (enc := enc) (C := Tryz.checked) false ⟨#[], #[.slice none 0 0], []⟩ 8 (by kernel_rfl) (by kernel_rfl) (by kernel_rfl) (by kernel_rfl)) ?_
 intro W base args ds gs before hval0 hW hcnd _
 have hval : ∀ (j : Nat) t v, Tryz.f4.params[j]? = some t → args[j]? = some v → Value.okWide Tryz.prog W .any base t v := hval0
 have hW' := hW
 obtain ⟨p, q, hA0, hV, rfl, hfz, hnd⟩ := hW
 have hA : DataW.TrodAll enc Tryz.prog W 0 (fun _ => true) true Tryz.f4.params.toList args.toList ds p := hA0
 rw [Tryz.params4] at hA hval
 obtain ⟨v0, vs0, d0, ds0, p0, q0, hargs, rfl, rfl, h0, r0⟩ := trodAll_cons hA
 obtain ⟨rfl, rfl, rfl⟩ := trodAll_nil r0
 obtain rfl : args = #[v0] := by cases args; simp_all
 obtain ⟨rfl, rfl⟩ := trodVars_none hV
 obtain ⟨a0, len0, cap0, rfl⟩ := okWide_slice Tryz.underlying22 (hval 0 22 v0 rfl rfl)
 have k0 := h0
 have lt0 : ∀ x ∈ p0, x.block < W.heap.size := by obtain ⟨m, hm⟩ := k0; exact DataW.trod_lt m _ _ _ hm
 obtain ⟨z0, w0⟩ : ∃ zs, a3U .u8 W a0 len0 cap0 zs := by
  obtain ⟨fuel, hf⟩ := h0
  rcases open_ints Tryz.underlying22 Tryz.underlying5 (by kernel_rfl) hf with ⟨hcs, _⟩ | ⟨x, l, c, zs, hcs, _, hl, hm, hz, _, hcell, hwz⟩
  ·simp [Value.cells] at hcs
   obtain ⟨rfl, rfl, rfl⟩ := hcs
   exact ⟨[], .inl ⟨rfl, rfl, rfl, rfl⟩⟩
  ·simp [Value.cells] at hcs
   obtain ⟨rfl, rfl, rfl⟩ := hcs
   exact ⟨zs, .inr ⟨_, rfl, hl, hm, by simpa using hz, hcell, hwz⟩⟩
 clear hA0 hval0
 refine (a7n a0 len0 cap0 z0 W w0).mono fun e W' ⟨he, bel⟩ => ?_
 subst he
 exact ⟨_, rfl, _, _, _, [], _, [], hW', trodAll_mk1 (shut_bool Tryz.underlying4 _), (trodAll_cons_mk (Below.trod laidOut (by kernel_rfl) (of_decide_eq_true (by kernel_rfl)) k0 bel lt0) trodAll_mk0), rfl, bel.frame _, fun h => by cases h⟩
theorem b4a : Tryz.pinned.checked.prog.funcNamed Rows.fnRunFoldRow.func = some 4 := by kernel_rfl
theorem a9H : laidOutB Tryz.pinned.checked.prog = true := by kernel_rfl
theorem a9G : mapsRowed Tryz.pinned.checked.prog = true := by kernel_rfl
theorem a9F : (Rows.fnRunFoldRow.inPlace == Tryz.pinned.checked.prog.inPlace 4) = true := by kernel_rfl
theorem a9E : (Rows.fnRunFoldRow.unfollowed == Tryz.pinned.checked.prog.unfollowed 4) = true := by kernel_rfl
theorem a9D : (Rows.fnRunFoldRow.recurses == Tryz.pinned.checked.prog.recurses 4) = true := by kernel_rfl
theorem a9C : (Rows.fnRunFoldRow.named == Tryz.pinned.checked.prog.varsNamed 4) = true := by kernel_rfl
theorem a9B : (Rows.fnRunFoldRow.plainKeys == Tryz.pinned.checked.prog.plainKeys) = true := by kernel_rfl
theorem a9A : (Rows.fnRunFoldRow.lifted == Tryz.pinned.checked.prog.liftsFinal) = true := by kernel_rfl
theorem a9z : Tryz.pinned.checked.prog.stopsHeard = true := by kernel_rfl
theorem a9y : Tryz.pinned.checked.prog.mayEnter = true := by kernel_rfl
theorem a7i : (Tryz.pinned.checked.prog.make == some Rows.fnRunFoldRow.make) = true := by kernel_rfl
theorem a9x : joinedFacts Tryz.pinned.checked.prog 4 Tryz.f4 Rows.fnRunFoldSpec Rows.fnRunFoldRow = true := by
 unfold joinedFacts
 rw [a9H, a9G, a9F, a9E, a9D, a9C, a9B, a9A, a9z, a9y, a7i]
 kernel_rfl
theorem fnRunFold_proved : Rows.FnRunFoldSaid :=
 OpenClaim.holds_of_wide 4 Tryz.f4 rfl rfl rfl rfl rfl rfl rfl ⟨rfl, rfl, rfl, rfl, rfl⟩ rfl rfl rfl rfl rfl b4a Tryz.func4 a9x
  (of_decide_eq_true (by kernel_rfl)) (by unfold Func.isWrapper; first | (rw [if_pos (by decide +kernel)]; kernel_rfl) | (rw [if_neg (by decide +kernel)]; exact ⟨rfl, rfl⟩))
  (fun os started H enc _ => a3B os started H enc)
end Go.Proofs.YtiioognflecdgaaGreat
