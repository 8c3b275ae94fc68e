/-
  No cell of these rows narrows 'for every input' (looked for: loops, veiled, ifaces, maps, wideKeys, modest, calm, conditions, laid).
  DERIVED. THE GIVEN ROWS OF THIS SEAT. 8 by the template 'for every input the law returns true; each argument reads behind the call as it read before'; 0 by the template 'total and deterministic' (their statements: YtjgijoageljjgaaGreatTotals.lean).
  GIVEN WITH THE SEED: the statements are not yours to turn. If you find one false, say at which input.
  Laid BY PROGRAM, IN A SANDBOX (cutbox-rows.mjs): the forced cells as the released guide's own fill.sh prints them over the translation 51a449f64b7da51f… (all of the seat's roots in one cut). By AI agents, Wed Nov 11 2026. No macro, syntax, notation, axiom, sorry.
-/
import Derived.Test.YtjgijoageljjgaaGreatChecked
import GoSem.Claim
import GoSem.ClaimJoined
import GoSem.ClaimMapViews
import Derived.JoinedTies
import Derived.KernelRfl
namespace Go.Proofs.YtjgijoageljjgaaGreat
/- THE CELL 'sum', in the pinned program and in every row, IS THE sha256 OF THE DUMP (.gsa) THAT YtjgijoageljjgaaGreatProg.lean LOADS. Nothing in Lean hashes anything: it is a label: what it is worth is what the hold of that sum in a sandbox is worth. -/
noncomputable def Tryz.pinned : Pinned := { name := "ytjgijoageljjgaagreat", sum := "51a449f64b7da51f9d21bbf4b5ce852a86d3513964103b8acd1dee3f60526c18", checked := Tryz.checked }
namespace Rows
def none {H : Type} : Left H := { results := [], args := [] }

/-- 'laws.FnExactStoOk': WHATEVER THE INPUT: true; the input reads as it did. -/
def fnExactStoOkSpec : ChangeSpec := { name := "fnExactStoOk", fn := fun _ => fun
  | [d1, d2] => { results := [.lit (.bool true)], args := [d1, d2] }
  | _ => none }
def fnExactStoOkRow : OpenClaim := { program := "ytjgijoageljjgaagreat", sum := "51a449f64b7da51f9d21bbf4b5ce852a86d3513964103b8acd1dee3f60526c18", func := "loop.example/landmarch/laws.FnExactStoOk", spec := "fnExactStoOk", inPlace := ["slices.overlaps[loop.example/landmarch/impl.WlkWalker]"], unfollowed := true, recurses := true, apart := false }
def FnExactStoOkSaid : Prop := fnExactStoOkRow.holds Tryz.pinned (OpenSpec.ofChange fnExactStoOkSpec)

/-- ITS FALSE NEIGHBOUR: 'it returns false'. Refute it at one input. -/
def fnExactStoOkWrong : ChangeSpec := { name := "fnExactStoOk", fn := fun _ => fun
  | [d1, d2] => { results := [.lit (.bool false)], args := [d1, d2] }
  | _ => none }
def FnExactStoOkWrongFalsely : Prop := fnExactStoOkRow.holds Tryz.pinned (OpenSpec.ofChange fnExactStoOkWrong)

/-- 'laws.FnExactLogApply': WHATEVER THE INPUT: true; the input reads as it did. -/
def fnExactLogApplySpec : ChangeSpec := { name := "fnExactLogApply", fn := fun _ => fun
  | [d1, d2, d3] => { results := [.lit (.bool true)], args := [d1, d2, d3] }
  | _ => none }
def fnExactLogApplyRow : OpenClaim := { program := "ytjgijoageljjgaagreat", sum := "51a449f64b7da51f9d21bbf4b5ce852a86d3513964103b8acd1dee3f60526c18", func := "loop.example/landmarch/laws.FnExactLogApply", spec := "fnExactLogApply", inPlace := ["slices.overlaps[loop.example/landmarch/impl.WlkWalker]"], unfollowed := true, recurses := true, apart := false }
def FnExactLogApplySaid : Prop := fnExactLogApplyRow.holds Tryz.pinned (OpenSpec.ofChange fnExactLogApplySpec)

/-- ITS FALSE NEIGHBOUR: 'it returns false'. Refute it at one input. -/
def fnExactLogApplyWrong : ChangeSpec := { name := "fnExactLogApply", fn := fun _ => fun
  | [d1, d2, d3] => { results := [.lit (.bool false)], args := [d1, d2, d3] }
  | _ => none }
def FnExactLogApplyWrongFalsely : Prop := fnExactLogApplyRow.holds Tryz.pinned (OpenSpec.ofChange fnExactLogApplyWrong)

/-- 'laws.FnExactLogFold': WHATEVER THE INPUT: true; the input reads as it did. -/
def fnExactLogFoldSpec : ChangeSpec := { name := "fnExactLogFold", fn := fun _ => fun
  | [d1, d2, d3] => { results := [.lit (.bool true)], args := [d1, d2, d3] }
  | _ => none }
def fnExactLogFoldRow : OpenClaim := { program := "ytjgijoageljjgaagreat", sum := "51a449f64b7da51f9d21bbf4b5ce852a86d3513964103b8acd1dee3f60526c18", func := "loop.example/landmarch/laws.FnExactLogFold", spec := "fnExactLogFold", inPlace := ["slices.overlaps[loop.example/landmarch/impl.WlkWalker]"], unfollowed := true, recurses := true, apart := false }
def FnExactLogFoldSaid : Prop := fnExactLogFoldRow.holds Tryz.pinned (OpenSpec.ofChange fnExactLogFoldSpec)

/-- ITS FALSE NEIGHBOUR: 'it returns false'. Refute it at one input. -/
def fnExactLogFoldWrong : ChangeSpec := { name := "fnExactLogFold", fn := fun _ => fun
  | [d1, d2, d3] => { results := [.lit (.bool false)], args := [d1, d2, d3] }
  | _ => none }
def FnExactLogFoldWrongFalsely : Prop := fnExactLogFoldRow.holds Tryz.pinned (OpenSpec.ofChange fnExactLogFoldWrong)

/-- 'laws.FnExactStoState': WHATEVER THE INPUT: true; the input reads as it did. -/
def fnExactStoStateSpec : ChangeSpec := { name := "fnExactStoState", fn := fun _ => fun
  | [d1, d2] => { results := [.lit (.bool true)], args := [d1, d2] }
  | _ => none }
def fnExactStoStateRow : OpenClaim := { program := "ytjgijoageljjgaagreat", sum := "51a449f64b7da51f9d21bbf4b5ce852a86d3513964103b8acd1dee3f60526c18", func := "loop.example/landmarch/laws.FnExactStoState", spec := "fnExactStoState", inPlace := ["slices.overlaps[loop.example/landmarch/impl.WlkWalker]"], unfollowed := true, recurses := true, apart := false }
def FnExactStoStateSaid : Prop := fnExactStoStateRow.holds Tryz.pinned (OpenSpec.ofChange fnExactStoStateSpec)

/-- ITS FALSE NEIGHBOUR: 'it returns false'. Refute it at one input. -/
def fnExactStoStateWrong : ChangeSpec := { name := "fnExactStoState", fn := fun _ => fun
  | [d1, d2] => { results := [.lit (.bool false)], args := [d1, d2] }
  | _ => none }
def FnExactStoStateWrongFalsely : Prop := fnExactStoStateRow.holds Tryz.pinned (OpenSpec.ofChange fnExactStoStateWrong)

/-- 'laws.FnExactStoFence': WHATEVER THE INPUT: true; the input reads as it did. -/
def fnExactStoFenceSpec : ChangeSpec := { name := "fnExactStoFence", fn := fun _ => fun
  | [d1, d2, d3] => { results := [.lit (.bool true)], args := [d1, d2, d3] }
  | _ => none }
def fnExactStoFenceRow : OpenClaim := { program := "ytjgijoageljjgaagreat", sum := "51a449f64b7da51f9d21bbf4b5ce852a86d3513964103b8acd1dee3f60526c18", func := "loop.example/landmarch/laws.FnExactStoFence", spec := "fnExactStoFence", inPlace := ["slices.overlaps[loop.example/landmarch/impl.WlkWalker]"], unfollowed := true, recurses := true, apart := false }
def FnExactStoFenceSaid : Prop := fnExactStoFenceRow.holds Tryz.pinned (OpenSpec.ofChange fnExactStoFenceSpec)

/-- ITS FALSE NEIGHBOUR: 'it returns false'. Refute it at one input. -/
def fnExactStoFenceWrong : ChangeSpec := { name := "fnExactStoFence", fn := fun _ => fun
  | [d1, d2, d3] => { results := [.lit (.bool false)], args := [d1, d2, d3] }
  | _ => none }
def FnExactStoFenceWrongFalsely : Prop := fnExactStoFenceRow.holds Tryz.pinned (OpenSpec.ofChange fnExactStoFenceWrong)

/-- 'laws.FnExactStoAppend': WHATEVER THE INPUT: true; the input reads as it did. -/
def fnExactStoAppendSpec : ChangeSpec := { name := "fnExactStoAppend", fn := fun _ => fun
  | [d1, d2, d3, d4, d5] => { results := [.lit (.bool true)], args := [d1, d2, d3, d4, d5] }
  | _ => none }
def fnExactStoAppendRow : OpenClaim := { program := "ytjgijoageljjgaagreat", sum := "51a449f64b7da51f9d21bbf4b5ce852a86d3513964103b8acd1dee3f60526c18", func := "loop.example/landmarch/laws.FnExactStoAppend", spec := "fnExactStoAppend", inPlace := ["slices.overlaps[loop.example/landmarch/impl.WlkWalker]"], unfollowed := true, recurses := true, apart := false }
def FnExactStoAppendSaid : Prop := fnExactStoAppendRow.holds Tryz.pinned (OpenSpec.ofChange fnExactStoAppendSpec)

/-- ITS FALSE NEIGHBOUR: 'it returns false'. Refute it at one input. -/
def fnExactStoAppendWrong : ChangeSpec := { name := "fnExactStoAppend", fn := fun _ => fun
  | [d1, d2, d3, d4, d5] => { results := [.lit (.bool false)], args := [d1, d2, d3, d4, d5] }
  | _ => none }
def FnExactStoAppendWrongFalsely : Prop := fnExactStoAppendRow.holds Tryz.pinned (OpenSpec.ofChange fnExactStoAppendWrong)

/-- 'laws.FnExactHldOpen': WHATEVER THE INPUT: true; the input reads as it did. -/
def fnExactHldOpenSpec : ChangeSpec := { name := "fnExactHldOpen", fn := fun _ => fun
  | [d1, d2, d3] => { results := [.lit (.bool true)], args := [d1, d2, d3] }
  | _ => none }
def fnExactHldOpenRow : OpenClaim := { program := "ytjgijoageljjgaagreat", sum := "51a449f64b7da51f9d21bbf4b5ce852a86d3513964103b8acd1dee3f60526c18", func := "loop.example/landmarch/laws.FnExactHldOpen", spec := "fnExactHldOpen", inPlace := ["slices.overlaps[loop.example/landmarch/impl.WlkWalker]"], unfollowed := true, recurses := true, apart := false }
def FnExactHldOpenSaid : Prop := fnExactHldOpenRow.holds Tryz.pinned (OpenSpec.ofChange fnExactHldOpenSpec)

/-- ITS FALSE NEIGHBOUR: 'it returns false'. Refute it at one input. -/
def fnExactHldOpenWrong : ChangeSpec := { name := "fnExactHldOpen", fn := fun _ => fun
  | [d1, d2, d3] => { results := [.lit (.bool false)], args := [d1, d2, d3] }
  | _ => none }
def FnExactHldOpenWrongFalsely : Prop := fnExactHldOpenRow.holds Tryz.pinned (OpenSpec.ofChange fnExactHldOpenWrong)

/-- 'laws.FnExactHldWrite': WHATEVER THE INPUT: true; the input reads as it did. -/
def fnExactHldWriteSpec : ChangeSpec := { name := "fnExactHldWrite", fn := fun _ => fun
  | [d1, d2, d3, d4] => { results := [.lit (.bool true)], args := [d1, d2, d3, d4] }
  | _ => none }
def fnExactHldWriteRow : OpenClaim := { program := "ytjgijoageljjgaagreat", sum := "51a449f64b7da51f9d21bbf4b5ce852a86d3513964103b8acd1dee3f60526c18", func := "loop.example/landmarch/laws.FnExactHldWrite", spec := "fnExactHldWrite", inPlace := ["slices.overlaps[loop.example/landmarch/impl.WlkWalker]"], unfollowed := true, recurses := true, apart := false }
def FnExactHldWriteSaid : Prop := fnExactHldWriteRow.holds Tryz.pinned (OpenSpec.ofChange fnExactHldWriteSpec)

/-- ITS FALSE NEIGHBOUR: 'it returns false'. Refute it at one input. -/
def fnExactHldWriteWrong : ChangeSpec := { name := "fnExactHldWrite", fn := fun _ => fun
  | [d1, d2, d3, d4] => { results := [.lit (.bool false)], args := [d1, d2, d3, d4] }
  | _ => none }
def FnExactHldWriteWrongFalsely : Prop := fnExactHldWriteRow.holds Tryz.pinned (OpenSpec.ofChange fnExactHldWriteWrong)

/- THE SECOND FORM. 'bulk': how many values and letters a reading holds, each counted each time it is reached (what is shared counts as often as it is met; a slice's spare places count too). A statement '..UptoSaid' is the law's where the arguments, and the package variables that the reading takes, are together of bulk at most 1048576: NARROWER than '..Said'. Prove '..Said' where nothing that the law and all that it calls make is longer than what came in: it says more and counts as full. Else prove '..UptoSaid'. A law counts once. -/
mutual
def uptoBulk {H : Type} : DataW H → Nat
  | .lit (.string bytes) => bytes.length + 1
  | .lit _ => 1
  | .nil => 1
  | .ptr d => uptoBulk d + 1
  | .slice elems spare => uptoBulkAll elems + uptoBulkAll spare + 1
  | .agg parts => uptoBulkAll parts + 1
  | .iface _ d => uptoBulk d + 1
  | .map entries => uptoBulkEntries entries + 1
  | .held _ => 1
def uptoBulkAll {H : Type} : List (DataW H) → Nat
  | [] => 0
  | d :: r => uptoBulk d + uptoBulkAll r
def uptoBulkEntries {H : Type} : List (Lit × DataW H) → Nat
  | [] => 0
  | x :: r => uptoBulkEntry x + uptoBulkEntries r
def uptoBulkEntry {H : Type} : Lit × DataW H → Nat
  | (.string bytes, d) => bytes.length + uptoBulk d + 1
  | (_, d) => uptoBulk d + 1
 end
def uptoSmall : (H : Type) → List (DataW H) → Bool := fun _ ds => decide (uptoBulkAll ds ≤ 1048576)
def OpenSpec.upto (s : _root_.Go.ChangeSpec) : _root_.Go.OpenSpec := { _root_.Go.OpenSpec.ofChange s with cond := some uptoSmall }

/-- 'laws.FnExactStoOk', WHERE WHAT IT READS IS OF BULK AT MOST 1048576: true; the input reads as it did. -/
def fnExactStoOkUptoRow : OpenClaim := { program := "ytjgijoageljjgaagreat", sum := "51a449f64b7da51f9d21bbf4b5ce852a86d3513964103b8acd1dee3f60526c18", func := "loop.example/landmarch/laws.FnExactStoOk", spec := "fnExactStoOk", inPlace := ["slices.overlaps[loop.example/landmarch/impl.WlkWalker]"], unfollowed := true, recurses := true, apart := false, narrowed := true }
def FnExactStoOkUptoSaid : Prop := fnExactStoOkUptoRow.holds Tryz.pinned (OpenSpec.upto fnExactStoOkSpec)

/-- 'laws.FnExactLogApply', WHERE WHAT IT READS IS OF BULK AT MOST 1048576: true; the input reads as it did. -/
def fnExactLogApplyUptoRow : OpenClaim := { program := "ytjgijoageljjgaagreat", sum := "51a449f64b7da51f9d21bbf4b5ce852a86d3513964103b8acd1dee3f60526c18", func := "loop.example/landmarch/laws.FnExactLogApply", spec := "fnExactLogApply", inPlace := ["slices.overlaps[loop.example/landmarch/impl.WlkWalker]"], unfollowed := true, recurses := true, apart := false, narrowed := true }
def FnExactLogApplyUptoSaid : Prop := fnExactLogApplyUptoRow.holds Tryz.pinned (OpenSpec.upto fnExactLogApplySpec)

/-- 'laws.FnExactLogFold', WHERE WHAT IT READS IS OF BULK AT MOST 1048576: true; the input reads as it did. -/
def fnExactLogFoldUptoRow : OpenClaim := { program := "ytjgijoageljjgaagreat", sum := "51a449f64b7da51f9d21bbf4b5ce852a86d3513964103b8acd1dee3f60526c18", func := "loop.example/landmarch/laws.FnExactLogFold", spec := "fnExactLogFold", inPlace := ["slices.overlaps[loop.example/landmarch/impl.WlkWalker]"], unfollowed := true, recurses := true, apart := false, narrowed := true }
def FnExactLogFoldUptoSaid : Prop := fnExactLogFoldUptoRow.holds Tryz.pinned (OpenSpec.upto fnExactLogFoldSpec)

/-- 'laws.FnExactStoState', WHERE WHAT IT READS IS OF BULK AT MOST 1048576: true; the input reads as it did. -/
def fnExactStoStateUptoRow : OpenClaim := { program := "ytjgijoageljjgaagreat", sum := "51a449f64b7da51f9d21bbf4b5ce852a86d3513964103b8acd1dee3f60526c18", func := "loop.example/landmarch/laws.FnExactStoState", spec := "fnExactStoState", inPlace := ["slices.overlaps[loop.example/landmarch/impl.WlkWalker]"], unfollowed := true, recurses := true, apart := false, narrowed := true }
def FnExactStoStateUptoSaid : Prop := fnExactStoStateUptoRow.holds Tryz.pinned (OpenSpec.upto fnExactStoStateSpec)

/-- 'laws.FnExactStoFence', WHERE WHAT IT READS IS OF BULK AT MOST 1048576: true; the input reads as it did. -/
def fnExactStoFenceUptoRow : OpenClaim := { program := "ytjgijoageljjgaagreat", sum := "51a449f64b7da51f9d21bbf4b5ce852a86d3513964103b8acd1dee3f60526c18", func := "loop.example/landmarch/laws.FnExactStoFence", spec := "fnExactStoFence", inPlace := ["slices.overlaps[loop.example/landmarch/impl.WlkWalker]"], unfollowed := true, recurses := true, apart := false, narrowed := true }
def FnExactStoFenceUptoSaid : Prop := fnExactStoFenceUptoRow.holds Tryz.pinned (OpenSpec.upto fnExactStoFenceSpec)

/-- 'laws.FnExactStoAppend', WHERE WHAT IT READS IS OF BULK AT MOST 1048576: true; the input reads as it did. -/
def fnExactStoAppendUptoRow : OpenClaim := { program := "ytjgijoageljjgaagreat", sum := "51a449f64b7da51f9d21bbf4b5ce852a86d3513964103b8acd1dee3f60526c18", func := "loop.example/landmarch/laws.FnExactStoAppend", spec := "fnExactStoAppend", inPlace := ["slices.overlaps[loop.example/landmarch/impl.WlkWalker]"], unfollowed := true, recurses := true, apart := false, narrowed := true }
def FnExactStoAppendUptoSaid : Prop := fnExactStoAppendUptoRow.holds Tryz.pinned (OpenSpec.upto fnExactStoAppendSpec)

/-- 'laws.FnExactHldOpen', WHERE WHAT IT READS IS OF BULK AT MOST 1048576: true; the input reads as it did. -/
def fnExactHldOpenUptoRow : OpenClaim := { program := "ytjgijoageljjgaagreat", sum := "51a449f64b7da51f9d21bbf4b5ce852a86d3513964103b8acd1dee3f60526c18", func := "loop.example/landmarch/laws.FnExactHldOpen", spec := "fnExactHldOpen", inPlace := ["slices.overlaps[loop.example/landmarch/impl.WlkWalker]"], unfollowed := true, recurses := true, apart := false, narrowed := true }
def FnExactHldOpenUptoSaid : Prop := fnExactHldOpenUptoRow.holds Tryz.pinned (OpenSpec.upto fnExactHldOpenSpec)

/-- 'laws.FnExactHldWrite', WHERE WHAT IT READS IS OF BULK AT MOST 1048576: true; the input reads as it did. -/
def fnExactHldWriteUptoRow : OpenClaim := { program := "ytjgijoageljjgaagreat", sum := "51a449f64b7da51f9d21bbf4b5ce852a86d3513964103b8acd1dee3f60526c18", func := "loop.example/landmarch/laws.FnExactHldWrite", spec := "fnExactHldWrite", inPlace := ["slices.overlaps[loop.example/landmarch/impl.WlkWalker]"], unfollowed := true, recurses := true, apart := false, narrowed := true }
def FnExactHldWriteUptoSaid : Prop := fnExactHldWriteUptoRow.holds Tryz.pinned (OpenSpec.upto fnExactHldWriteSpec)

end Rows
end Go.Proofs.YtjgijoageljjgaaGreat
