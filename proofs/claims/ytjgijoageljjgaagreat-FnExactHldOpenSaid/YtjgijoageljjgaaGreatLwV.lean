/-
  FnExactHldOpen: HldOpen is the reference's, and its results are in memory of their own: whatever comes in, the law returns true, and turns nothing that was there.
-/
import Derived.Test.YtjgijoageljjgaaGreatRows
import Derived.Test.YtjgijoageljjgaaGreatFpV
import Derived.Test.YtjgijoageljjgaaGreatFpE
import Derived.Test.YtjgijoageljjgaaGreatLwX
import Derived.WalkKit
import Derived.ProofKit
import Derived.OpenShut
import Derived.ChangeOld
import Derived.Below
set_option linter.unusedVariables false
set_option linter.unusedSimpArgs false
namespace Go.Proofs.YtjgijoageljjgaaGreat
open Go.ChangeShapes Go.WideShapes Go.ChangeAt Go.RowKit
open Go.Sx Go.Mo
set_option linter.unusedVariables false
set_option linter.unusedSimpArgs false
set_option maxHeartbeats 4000000

theorem ownK : ownKnob Tryz.prog.godebug = none := by kernel_rfl
theorem laidOut : laidOutB Tryz.prog = true := by kernel_rfl

theorem once_ex {f : Nat} {w : World} {v0 v1 v2 : Value} {x0 : PMap} {x1 : LSto} {x2 : Int} (h : SpecOk1 Tryz.prog f sExHldOpen) (hL1 : SpecOk1 Tryz.prog f sExHldOpenL1) (i0 : InV (Sw w) w v0 (.map) fun _ => x0) (i1 : InV (Sw w) w v1 (.row .lsto) fun _ => x1) (j1 : fitS x1 → ∃ y : Sto, InV (Sw w) w v1 (.row .sto) fun _ => y) (i2 : InV (Sw w) w v2 (.int .i64) fun _ => x2) :
    Calls Tryz.prog f #[v0, v1, v2] w fun e w' => e = .returned (.bool true) ∧ Below w.heap.size w w' := by
  by_cases f1 : fitS x1
  rotate_left
  · exact lawN (ps := [.map, .row .lsto, .int .i64]) (pre := fun (x : Args [.map, .row .lsto, .int .i64]) => 1048576 < cntS (x.2.1 ())) (x := (fun _ => x0, fun _ => x1, fun _ => x2, ())) hL1 ⟨i0, i1, i2, trivial⟩ (big_S f1)
  obtain ⟨y1, k1⟩ := j1 f1
  exact lawN (ps := [.map, .row .sto, .int .i64]) (pre := fun _ => True) (x := (fun _ => x0, fun _ => y1, fun _ => x2, ())) h ⟨i0, k1, i2, trivial⟩ trivial

set_option maxRecDepth 100000 in
theorem once_lifted (os : Os) (started : os.Started) (H : Type) (enc : TypeId × Value → H) :
    ReturnsInHanded {} Tryz.checked os 9 .any (Rows.fnExactHldOpenSpec.pre6 enc Tryz.prog Tryz.f9 Rows.fnExactHldOpenRow.domain false) (Rows.fnExactHldOpenSpec.post enc Tryz.prog Tryz.f9 false true false false) := by
  refine returnsInHanded_of_change (C := Tryz.checked) ownK started (by kernel_rfl) Tryz.func9
    (ChangeSpec.witness6 (enc := enc) (C := Tryz.checked) false ⟨#[], #[.agg #[.int .i64 0, .int .i64 0], .agg #[.int .i64 0, .int .i64 0, .slice none 0 0, .int .i64 0, .slice none 0 0, .slice none 0 0, .slice none 0 0, .slice none 0 0], .int .i64 0], []⟩ 8 (by kernel_rfl) (by kernel_rfl) (by kernel_rfl) (by kernel_rfl)) ?_
  intro W base args ds gs before hval0 hW hcnd _
  have hval : ∀ (j : Nat) t v, Tryz.f9.params[j]? = some t → args[j]? = some v → Value.okWide Tryz.prog W .any base t v := hval0
  have hW' := hW
  obtain ⟨p, q, hA0, hV, rfl, hfz, hnd⟩ := hW
  have hA : DataW.TrodAll enc Tryz.prog W 0 (fun _ => true) true Tryz.f9.params.toList args.toList ds p := hA0
  rw [Tryz.params9] at hA hval
  obtain ⟨v0, vs0, d0, ds0, p0, q0, hargs, rfl, rfl, h0, r0⟩ := trodAll_cons hA
  obtain ⟨v1, vs1, d1, ds1, p1, q1, rfl, rfl, rfl, h1, r1⟩ := trodAll_cons r0
  obtain ⟨v2, vs2, d2, ds2, p2, q2, rfl, rfl, rfl, h2, r2⟩ := trodAll_cons r1
  obtain ⟨rfl, rfl, rfl⟩ := trodAll_nil r2
  obtain rfl : args = #[v0, v1, v2] := by cases args; simp_all
  obtain ⟨rfl, rfl⟩ := trodVars_none hV
  have k0 := h0
  have k1 := h1
  have k2 := h2
  have lt0 : ∀ x ∈ p0, x.block < W.heap.size := by obtain ⟨m, hm⟩ := k0; exact DataW.trod_lt m _ _ _ hm
  have lt1 : ∀ x ∈ p1, x.block < W.heap.size := by obtain ⟨m, hm⟩ := k1; exact DataW.trod_lt m _ _ _ hm
  have lt2 : ∀ x ∈ p2, x.block < W.heap.size := by obtain ⟨m, hm⟩ := k2; exact DataW.trod_lt m _ _ _ hm
  obtain ⟨x0, i0⟩ := arg_map Tryz.underlying23 (by kernel_rfl) (hval 0 23 v0 rfl rfl) h0
  obtain ⟨x1, i1, j1⟩ := arg_sto Tryz.underlying31 (by kernel_rfl) (hval 1 31 v1 rfl rfl) h1
  obtain ⟨x2, i2⟩ := arg_int Tryz.underlying3 (hval 2 3 v2 rfl rfl) h2
  clear hA0 hval0
  refine (once_ex okExHldOpen okExHldOpenL1 i0 i1 j1 i2).mono fun e W' ⟨he, bel⟩ => ?_
  subst he
  exact ⟨_, rfl, _, _, _, [], _, [], hW', trodAll_mk1 (shut_bool Tryz.underlying4 _), (trodAll_cons_mk (Below.trod laidOut (by kernel_rfl) (of_decide_eq_true (by kernel_rfl)) k0 bel lt0) (trodAll_cons_mk (Below.trod laidOut (by kernel_rfl) (of_decide_eq_true (by kernel_rfl)) k1 bel lt1) (trodAll_cons_mk (Below.trod laidOut (by kernel_rfl) (of_decide_eq_true (by kernel_rfl)) k2 bel lt2) trodAll_mk0))), rfl, bel.frame _, fun h => by cases h⟩

/-- The program's HldOpen returns what the reference's returns. -/
theorem fnExactHldOpen_proved : Rows.FnExactHldOpenSaid :=
  OpenClaim.holds_of_wide 9 Tryz.f9 rfl rfl rfl rfl rfl rfl rfl ⟨rfl, rfl, rfl, rfl, rfl⟩ rfl rfl rfl rfl rfl (by kernel_rfl) Tryz.func9 (by kernel_rfl)
    (of_decide_eq_true (by kernel_rfl)) (by unfold Func.isWrapper; first | (rw [if_pos (by decide +kernel)]; kernel_rfl) | (rw [if_neg (by decide +kernel)]; exact ⟨rfl, rfl⟩))
    (fun os started H enc _ => once_lifted os started H enc)

end Go.Proofs.YtjgijoageljjgaaGreat
