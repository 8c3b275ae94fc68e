/-
  No cell of these rows narrows 'for every input' (looked for: loops, veiled, ifaces, maps, wideKeys, modest, calm, conditions, laid).
  DERIVED. THE GIVEN ROWS OF THIS SEAT. 9 by the template 'for every input the law returns true; each argument reads behind the call as it read before'; 0 by the template 'total and deterministic' (their statements: YtfdohbjamanomaaGreatTotals.lean).
  GIVEN WITH THE SEED: the statements are not yours to turn. If you find one false, say at which input.
  Laid BY PROGRAM, IN A SANDBOX (cutbox-rows.mjs): the forced cells as the released guide's own fill.sh prints them over the translation 29f75fc9037fbe63… (all of the seat's roots in one cut). By AI agents, Wed Nov 11 2026. No macro, syntax, notation, axiom, sorry.
-/
import Derived.Test.YtfdohbjamanomaaGreatChecked
import GoSem.Claim
import GoSem.ClaimJoined
import GoSem.ClaimMapViews
import Derived.JoinedTies
import Derived.KernelRfl
namespace Go.Proofs.YtfdohbjamanomaaGreat
/- THE CELL 'sum', in the pinned program and in every row, IS THE sha256 OF THE DUMP (.gsa) THAT YtfdohbjamanomaaGreatProg.lean LOADS. Nothing in Lean hashes anything: it is a label: what it is worth is what the hold of that sum in a sandbox is worth. -/
noncomputable def Tryz.pinned : Pinned := { name := "ytfdohbjamanomaagreat", sum := "29f75fc9037fbe630b09c74b67305525eceb6bd067f85d18d23e13f53e6465a3", checked := Tryz.checked }
namespace Rows
def none {H : Type} : Left H := { results := [], args := [] }

/-- 'laws.FnLogApply': WHATEVER THE INPUT: true; the input reads as it did. -/
def fnLogApplySpec : ChangeSpec := { name := "fnLogApply", fn := fun _ => fun
  | [d] => { results := [.lit (.bool true)], args := [d] }
  | _ => none }
def fnLogApplyRow : OpenClaim := { program := "ytfdohbjamanomaagreat", sum := "29f75fc9037fbe630b09c74b67305525eceb6bd067f85d18d23e13f53e6465a3", func := "loop.example/landmarch/laws.FnLogApply", spec := "fnLogApply", inPlace := ["slices.overlaps[loop.example/landmarch/impl.WlkWalker]"], unfollowed := true, recurses := true, apart := false }
def FnLogApplySaid : Prop := fnLogApplyRow.holds Tryz.pinned (OpenSpec.ofChange fnLogApplySpec)

/-- ITS FALSE NEIGHBOUR: 'it returns false'. Refute it at one input. -/
def fnLogApplyWrong : ChangeSpec := { name := "fnLogApply", fn := fun _ => fun
  | [d] => { results := [.lit (.bool false)], args := [d] }
  | _ => none }
def FnLogApplyWrongFalsely : Prop := fnLogApplyRow.holds Tryz.pinned (OpenSpec.ofChange fnLogApplyWrong)

/-- 'laws.FnLogFold': WHATEVER THE INPUT: true; the input reads as it did. -/
def fnLogFoldSpec : ChangeSpec := { name := "fnLogFold", fn := fun _ => fun
  | [d] => { results := [.lit (.bool true)], args := [d] }
  | _ => none }
def fnLogFoldRow : OpenClaim := { program := "ytfdohbjamanomaagreat", sum := "29f75fc9037fbe630b09c74b67305525eceb6bd067f85d18d23e13f53e6465a3", func := "loop.example/landmarch/laws.FnLogFold", spec := "fnLogFold", inPlace := ["slices.overlaps[loop.example/landmarch/impl.WlkWalker]"], unfollowed := true, recurses := true, apart := false }
def FnLogFoldSaid : Prop := fnLogFoldRow.holds Tryz.pinned (OpenSpec.ofChange fnLogFoldSpec)

/-- ITS FALSE NEIGHBOUR: 'it returns false'. Refute it at one input. -/
def fnLogFoldWrong : ChangeSpec := { name := "fnLogFold", fn := fun _ => fun
  | [d] => { results := [.lit (.bool false)], args := [d] }
  | _ => none }
def FnLogFoldWrongFalsely : Prop := fnLogFoldRow.holds Tryz.pinned (OpenSpec.ofChange fnLogFoldWrong)

/-- 'laws.FnStoState': WHATEVER THE INPUT: true; the input reads as it did. -/
def fnStoStateSpec : ChangeSpec := { name := "fnStoState", fn := fun _ => fun
  | [d] => { results := [.lit (.bool true)], args := [d] }
  | _ => none }
def fnStoStateRow : OpenClaim := { program := "ytfdohbjamanomaagreat", sum := "29f75fc9037fbe630b09c74b67305525eceb6bd067f85d18d23e13f53e6465a3", func := "loop.example/landmarch/laws.FnStoState", spec := "fnStoState", inPlace := ["slices.overlaps[loop.example/landmarch/impl.WlkWalker]"], unfollowed := true, recurses := true, apart := false }
def FnStoStateSaid : Prop := fnStoStateRow.holds Tryz.pinned (OpenSpec.ofChange fnStoStateSpec)

/-- ITS FALSE NEIGHBOUR: 'it returns false'. Refute it at one input. -/
def fnStoStateWrong : ChangeSpec := { name := "fnStoState", fn := fun _ => fun
  | [d] => { results := [.lit (.bool false)], args := [d] }
  | _ => none }
def FnStoStateWrongFalsely : Prop := fnStoStateRow.holds Tryz.pinned (OpenSpec.ofChange fnStoStateWrong)

/-- 'laws.FnHldAgain': WHATEVER THE INPUT: true; the input reads as it did. -/
def fnHldAgainSpec : ChangeSpec := { name := "fnHldAgain", fn := fun _ => fun
  | [d] => { results := [.lit (.bool true)], args := [d] }
  | _ => none }
def fnHldAgainRow : OpenClaim := { program := "ytfdohbjamanomaagreat", sum := "29f75fc9037fbe630b09c74b67305525eceb6bd067f85d18d23e13f53e6465a3", func := "loop.example/landmarch/laws.FnHldAgain", spec := "fnHldAgain", inPlace := ["slices.overlaps[loop.example/landmarch/impl.WlkWalker]"], unfollowed := true, recurses := true, apart := false }
def FnHldAgainSaid : Prop := fnHldAgainRow.holds Tryz.pinned (OpenSpec.ofChange fnHldAgainSpec)

/-- ITS FALSE NEIGHBOUR: 'it returns false'. Refute it at one input. -/
def fnHldAgainWrong : ChangeSpec := { name := "fnHldAgain", fn := fun _ => fun
  | [d] => { results := [.lit (.bool false)], args := [d] }
  | _ => none }
def FnHldAgainWrongFalsely : Prop := fnHldAgainRow.holds Tryz.pinned (OpenSpec.ofChange fnHldAgainWrong)

/-- 'laws.FnHldOpen': WHATEVER THE INPUT: true; the input reads as it did. -/
def fnHldOpenSpec : ChangeSpec := { name := "fnHldOpen", fn := fun _ => fun
  | [d] => { results := [.lit (.bool true)], args := [d] }
  | _ => none }
def fnHldOpenRow : OpenClaim := { program := "ytfdohbjamanomaagreat", sum := "29f75fc9037fbe630b09c74b67305525eceb6bd067f85d18d23e13f53e6465a3", func := "loop.example/landmarch/laws.FnHldOpen", spec := "fnHldOpen", inPlace := ["slices.overlaps[loop.example/landmarch/impl.WlkWalker]"], unfollowed := true, recurses := true, apart := false }
def FnHldOpenSaid : Prop := fnHldOpenRow.holds Tryz.pinned (OpenSpec.ofChange fnHldOpenSpec)

/-- ITS FALSE NEIGHBOUR: 'it returns false'. Refute it at one input. -/
def fnHldOpenWrong : ChangeSpec := { name := "fnHldOpen", fn := fun _ => fun
  | [d] => { results := [.lit (.bool false)], args := [d] }
  | _ => none }
def FnHldOpenWrongFalsely : Prop := fnHldOpenRow.holds Tryz.pinned (OpenSpec.ofChange fnHldOpenWrong)

/-- 'laws.FnStoFence': WHATEVER THE INPUT: true; the input reads as it did. -/
def fnStoFenceSpec : ChangeSpec := { name := "fnStoFence", fn := fun _ => fun
  | [d1, d2] => { results := [.lit (.bool true)], args := [d1, d2] }
  | _ => none }
def fnStoFenceRow : OpenClaim := { program := "ytfdohbjamanomaagreat", sum := "29f75fc9037fbe630b09c74b67305525eceb6bd067f85d18d23e13f53e6465a3", func := "loop.example/landmarch/laws.FnStoFence", spec := "fnStoFence", inPlace := ["slices.overlaps[loop.example/landmarch/impl.WlkWalker]"], unfollowed := true, recurses := true, apart := false }
def FnStoFenceSaid : Prop := fnStoFenceRow.holds Tryz.pinned (OpenSpec.ofChange fnStoFenceSpec)

/-- ITS FALSE NEIGHBOUR: 'it returns false'. Refute it at one input. -/
def fnStoFenceWrong : ChangeSpec := { name := "fnStoFence", fn := fun _ => fun
  | [d1, d2] => { results := [.lit (.bool false)], args := [d1, d2] }
  | _ => none }
def FnStoFenceWrongFalsely : Prop := fnStoFenceRow.holds Tryz.pinned (OpenSpec.ofChange fnStoFenceWrong)

/-- 'laws.FnStoAppend': WHATEVER THE INPUT: true; the input reads as it did. -/
def fnStoAppendSpec : ChangeSpec := { name := "fnStoAppend", fn := fun _ => fun
  | [d] => { results := [.lit (.bool true)], args := [d] }
  | _ => none }
def fnStoAppendRow : OpenClaim := { program := "ytfdohbjamanomaagreat", sum := "29f75fc9037fbe630b09c74b67305525eceb6bd067f85d18d23e13f53e6465a3", func := "loop.example/landmarch/laws.FnStoAppend", spec := "fnStoAppend", inPlace := ["slices.overlaps[loop.example/landmarch/impl.WlkWalker]"], unfollowed := true, recurses := true, apart := false }
def FnStoAppendSaid : Prop := fnStoAppendRow.holds Tryz.pinned (OpenSpec.ofChange fnStoAppendSpec)

/-- ITS FALSE NEIGHBOUR: 'it returns false'. Refute it at one input. -/
def fnStoAppendWrong : ChangeSpec := { name := "fnStoAppend", fn := fun _ => fun
  | [d] => { results := [.lit (.bool false)], args := [d] }
  | _ => none }
def FnStoAppendWrongFalsely : Prop := fnStoAppendRow.holds Tryz.pinned (OpenSpec.ofChange fnStoAppendWrong)

/-- 'laws.FnHldFenced': WHATEVER THE INPUT: true; the input reads as it did. -/
def fnHldFencedSpec : ChangeSpec := { name := "fnHldFenced", fn := fun _ => fun
  | [d1, d2] => { results := [.lit (.bool true)], args := [d1, d2] }
  | _ => none }
def fnHldFencedRow : OpenClaim := { program := "ytfdohbjamanomaagreat", sum := "29f75fc9037fbe630b09c74b67305525eceb6bd067f85d18d23e13f53e6465a3", func := "loop.example/landmarch/laws.FnHldFenced", spec := "fnHldFenced", inPlace := ["slices.overlaps[loop.example/landmarch/impl.WlkWalker]"], unfollowed := true, recurses := true, apart := false }
def FnHldFencedSaid : Prop := fnHldFencedRow.holds Tryz.pinned (OpenSpec.ofChange fnHldFencedSpec)

/-- ITS FALSE NEIGHBOUR: 'it returns false'. Refute it at one input. -/
def fnHldFencedWrong : ChangeSpec := { name := "fnHldFenced", fn := fun _ => fun
  | [d1, d2] => { results := [.lit (.bool false)], args := [d1, d2] }
  | _ => none }
def FnHldFencedWrongFalsely : Prop := fnHldFencedRow.holds Tryz.pinned (OpenSpec.ofChange fnHldFencedWrong)

/-- 'laws.FnHldWrite': WHATEVER THE INPUT: true; the input reads as it did. -/
def fnHldWriteSpec : ChangeSpec := { name := "fnHldWrite", fn := fun _ => fun
  | [d] => { results := [.lit (.bool true)], args := [d] }
  | _ => none }
def fnHldWriteRow : OpenClaim := { program := "ytfdohbjamanomaagreat", sum := "29f75fc9037fbe630b09c74b67305525eceb6bd067f85d18d23e13f53e6465a3", func := "loop.example/landmarch/laws.FnHldWrite", spec := "fnHldWrite", inPlace := ["slices.overlaps[loop.example/landmarch/impl.WlkWalker]"], unfollowed := true, recurses := true, apart := false }
def FnHldWriteSaid : Prop := fnHldWriteRow.holds Tryz.pinned (OpenSpec.ofChange fnHldWriteSpec)

/-- ITS FALSE NEIGHBOUR: 'it returns false'. Refute it at one input. -/
def fnHldWriteWrong : ChangeSpec := { name := "fnHldWrite", fn := fun _ => fun
  | [d] => { results := [.lit (.bool false)], args := [d] }
  | _ => none }
def FnHldWriteWrongFalsely : Prop := fnHldWriteRow.holds Tryz.pinned (OpenSpec.ofChange fnHldWriteWrong)

/- THE SECOND FORM. 'bulk': how many values and letters a reading holds, each counted each time it is reached (what is shared counts as often as it is met; a slice's spare places count too). A statement '..UptoSaid' is the law's where the arguments, and the package variables that the reading takes, are together of bulk at most 1048576: NARROWER than '..Said'. Prove '..Said' where nothing that the law and all that it calls make is longer than what came in: it says more and counts as full. Else prove '..UptoSaid'. A law counts once. -/
mutual
def uptoBulk {H : Type} : DataW H → Nat
  | .lit (.string bytes) => bytes.length + 1
  | .lit _ => 1
  | .nil => 1
  | .ptr d => uptoBulk d + 1
  | .slice elems spare => uptoBulkAll elems + uptoBulkAll spare + 1
  | .agg parts => uptoBulkAll parts + 1
  | .iface _ d => uptoBulk d + 1
  | .map entries => uptoBulkEntries entries + 1
  | .held _ => 1
def uptoBulkAll {H : Type} : List (DataW H) → Nat
  | [] => 0
  | d :: r => uptoBulk d + uptoBulkAll r
def uptoBulkEntries {H : Type} : List (Lit × DataW H) → Nat
  | [] => 0
  | x :: r => uptoBulkEntry x + uptoBulkEntries r
def uptoBulkEntry {H : Type} : Lit × DataW H → Nat
  | (.string bytes, d) => bytes.length + uptoBulk d + 1
  | (_, d) => uptoBulk d + 1
 end
def uptoSmall : (H : Type) → List (DataW H) → Bool := fun _ ds => decide (uptoBulkAll ds ≤ 1048576)
def OpenSpec.upto (s : _root_.Go.ChangeSpec) : _root_.Go.OpenSpec := { _root_.Go.OpenSpec.ofChange s with cond := some uptoSmall }

/-- 'laws.FnLogApply', WHERE WHAT IT READS IS OF BULK AT MOST 1048576: true; the input reads as it did. -/
def fnLogApplyUptoRow : OpenClaim := { program := "ytfdohbjamanomaagreat", sum := "29f75fc9037fbe630b09c74b67305525eceb6bd067f85d18d23e13f53e6465a3", func := "loop.example/landmarch/laws.FnLogApply", spec := "fnLogApply", inPlace := ["slices.overlaps[loop.example/landmarch/impl.WlkWalker]"], unfollowed := true, recurses := true, apart := false, narrowed := true }
def FnLogApplyUptoSaid : Prop := fnLogApplyUptoRow.holds Tryz.pinned (OpenSpec.upto fnLogApplySpec)

/-- 'laws.FnLogFold', WHERE WHAT IT READS IS OF BULK AT MOST 1048576: true; the input reads as it did. -/
def fnLogFoldUptoRow : OpenClaim := { program := "ytfdohbjamanomaagreat", sum := "29f75fc9037fbe630b09c74b67305525eceb6bd067f85d18d23e13f53e6465a3", func := "loop.example/landmarch/laws.FnLogFold", spec := "fnLogFold", inPlace := ["slices.overlaps[loop.example/landmarch/impl.WlkWalker]"], unfollowed := true, recurses := true, apart := false, narrowed := true }
def FnLogFoldUptoSaid : Prop := fnLogFoldUptoRow.holds Tryz.pinned (OpenSpec.upto fnLogFoldSpec)

/-- 'laws.FnStoState', WHERE WHAT IT READS IS OF BULK AT MOST 1048576: true; the input reads as it did. -/
def fnStoStateUptoRow : OpenClaim := { program := "ytfdohbjamanomaagreat", sum := "29f75fc9037fbe630b09c74b67305525eceb6bd067f85d18d23e13f53e6465a3", func := "loop.example/landmarch/laws.FnStoState", spec := "fnStoState", inPlace := ["slices.overlaps[loop.example/landmarch/impl.WlkWalker]"], unfollowed := true, recurses := true, apart := false, narrowed := true }
def FnStoStateUptoSaid : Prop := fnStoStateUptoRow.holds Tryz.pinned (OpenSpec.upto fnStoStateSpec)

/-- 'laws.FnHldAgain', WHERE WHAT IT READS IS OF BULK AT MOST 1048576: true; the input reads as it did. -/
def fnHldAgainUptoRow : OpenClaim := { program := "ytfdohbjamanomaagreat", sum := "29f75fc9037fbe630b09c74b67305525eceb6bd067f85d18d23e13f53e6465a3", func := "loop.example/landmarch/laws.FnHldAgain", spec := "fnHldAgain", inPlace := ["slices.overlaps[loop.example/landmarch/impl.WlkWalker]"], unfollowed := true, recurses := true, apart := false, narrowed := true }
def FnHldAgainUptoSaid : Prop := fnHldAgainUptoRow.holds Tryz.pinned (OpenSpec.upto fnHldAgainSpec)

/-- 'laws.FnHldOpen', WHERE WHAT IT READS IS OF BULK AT MOST 1048576: true; the input reads as it did. -/
def fnHldOpenUptoRow : OpenClaim := { program := "ytfdohbjamanomaagreat", sum := "29f75fc9037fbe630b09c74b67305525eceb6bd067f85d18d23e13f53e6465a3", func := "loop.example/landmarch/laws.FnHldOpen", spec := "fnHldOpen", inPlace := ["slices.overlaps[loop.example/landmarch/impl.WlkWalker]"], unfollowed := true, recurses := true, apart := false, narrowed := true }
def FnHldOpenUptoSaid : Prop := fnHldOpenUptoRow.holds Tryz.pinned (OpenSpec.upto fnHldOpenSpec)

/-- 'laws.FnStoFence', WHERE WHAT IT READS IS OF BULK AT MOST 1048576: true; the input reads as it did. -/
def fnStoFenceUptoRow : OpenClaim := { program := "ytfdohbjamanomaagreat", sum := "29f75fc9037fbe630b09c74b67305525eceb6bd067f85d18d23e13f53e6465a3", func := "loop.example/landmarch/laws.FnStoFence", spec := "fnStoFence", inPlace := ["slices.overlaps[loop.example/landmarch/impl.WlkWalker]"], unfollowed := true, recurses := true, apart := false, narrowed := true }
def FnStoFenceUptoSaid : Prop := fnStoFenceUptoRow.holds Tryz.pinned (OpenSpec.upto fnStoFenceSpec)

/-- 'laws.FnStoAppend', WHERE WHAT IT READS IS OF BULK AT MOST 1048576: true; the input reads as it did. -/
def fnStoAppendUptoRow : OpenClaim := { program := "ytfdohbjamanomaagreat", sum := "29f75fc9037fbe630b09c74b67305525eceb6bd067f85d18d23e13f53e6465a3", func := "loop.example/landmarch/laws.FnStoAppend", spec := "fnStoAppend", inPlace := ["slices.overlaps[loop.example/landmarch/impl.WlkWalker]"], unfollowed := true, recurses := true, apart := false, narrowed := true }
def FnStoAppendUptoSaid : Prop := fnStoAppendUptoRow.holds Tryz.pinned (OpenSpec.upto fnStoAppendSpec)

/-- 'laws.FnHldFenced', WHERE WHAT IT READS IS OF BULK AT MOST 1048576: true; the input reads as it did. -/
def fnHldFencedUptoRow : OpenClaim := { program := "ytfdohbjamanomaagreat", sum := "29f75fc9037fbe630b09c74b67305525eceb6bd067f85d18d23e13f53e6465a3", func := "loop.example/landmarch/laws.FnHldFenced", spec := "fnHldFenced", inPlace := ["slices.overlaps[loop.example/landmarch/impl.WlkWalker]"], unfollowed := true, recurses := true, apart := false, narrowed := true }
def FnHldFencedUptoSaid : Prop := fnHldFencedUptoRow.holds Tryz.pinned (OpenSpec.upto fnHldFencedSpec)

/-- 'laws.FnHldWrite', WHERE WHAT IT READS IS OF BULK AT MOST 1048576: true; the input reads as it did. -/
def fnHldWriteUptoRow : OpenClaim := { program := "ytfdohbjamanomaagreat", sum := "29f75fc9037fbe630b09c74b67305525eceb6bd067f85d18d23e13f53e6465a3", func := "loop.example/landmarch/laws.FnHldWrite", spec := "fnHldWrite", inPlace := ["slices.overlaps[loop.example/landmarch/impl.WlkWalker]"], unfollowed := true, recurses := true, apart := false, narrowed := true }
def FnHldWriteUptoSaid : Prop := fnHldWriteUptoRow.holds Tryz.pinned (OpenSpec.upto fnHldWriteSpec)

end Rows
end Go.Proofs.YtfdohbjamanomaaGreat
