/-
  No cell of these rows narrows 'for every input' (looked for: loops, veiled, ifaces, maps, wideKeys, modest, calm, conditions, laid).
  DERIVED. THE GIVEN ROWS OF THIS SEAT. 7 by the template 'for every input the law returns true; each argument reads behind the call as it read before'; 0 by the template 'total and deterministic' (their statements: YtmnapekfeenknaaGreatTotals.lean).
  GIVEN WITH THE SEED: the statements are not yours to turn. If you find one false, say at which input.
  Laid BY PROGRAM, IN A SANDBOX (cutbox-rows.mjs): the forced cells as the released guide's own fill.sh prints them over the translation cc3e499f851fac11… (all of the seat's roots in one cut). By AI agents, Wed Nov 11 2026. No macro, syntax, notation, axiom, sorry.
-/
import Derived.Test.YtmnapekfeenknaaGreatChecked
import GoSem.Claim
import GoSem.ClaimJoined
import GoSem.ClaimMapViews
import Derived.JoinedTies
import Derived.KernelRfl
namespace Go.Proofs.YtmnapekfeenknaaGreat
/- THE CELL 'sum', in the pinned program and in every row, IS THE sha256 OF THE DUMP (.gsa) THAT YtmnapekfeenknaaGreatProg.lean LOADS. Nothing in Lean hashes anything: it is a label: what it is worth is what the hold of that sum in a sandbox is worth. -/
noncomputable def Tryz.pinned : Pinned := { name := "ytmnapekfeenknaagreat", sum := "cc3e499f851fac119122ff8e8539359613466ad573effc6422dd1c707a6a807f", checked := Tryz.checked }
namespace Rows
def none {H : Type} : Left H := { results := [], args := [] }

/-- 'laws.FnWldNew': WHATEVER THE INPUT: true; the input reads as it did. -/
def fnWldNewSpec : ChangeSpec := { name := "fnWldNew", fn := fun _ => fun
  | [d] => { results := [.lit (.bool true)], args := [d] }
  | _ => none }
def fnWldNewRow : OpenClaim := { program := "ytmnapekfeenknaagreat", sum := "cc3e499f851fac119122ff8e8539359613466ad573effc6422dd1c707a6a807f", func := "loop.example/landmarch/laws.FnWldNew", spec := "fnWldNew", inPlace := ["slices.overlaps[loop.example/landmarch/impl.WlkWalker]"], unfollowed := true, recurses := true, apart := false }
def FnWldNewSaid : Prop := fnWldNewRow.holds Tryz.pinned (OpenSpec.ofChange fnWldNewSpec)

/-- ITS FALSE NEIGHBOUR: 'it returns false'. Refute it at one input. -/
def fnWldNewWrong : ChangeSpec := { name := "fnWldNew", fn := fun _ => fun
  | [d] => { results := [.lit (.bool false)], args := [d] }
  | _ => none }
def FnWldNewWrongFalsely : Prop := fnWldNewRow.holds Tryz.pinned (OpenSpec.ofChange fnWldNewWrong)

/-- 'laws.FnOneLand': WHATEVER THE INPUT: true; the input reads as it did. -/
def fnOneLandSpec : ChangeSpec := { name := "fnOneLand", fn := fun _ => fun
  | [d] => { results := [.lit (.bool true)], args := [d] }
  | _ => none }
def fnOneLandRow : OpenClaim := { program := "ytmnapekfeenknaagreat", sum := "cc3e499f851fac119122ff8e8539359613466ad573effc6422dd1c707a6a807f", func := "loop.example/landmarch/laws.FnOneLand", spec := "fnOneLand", unfollowed := true, recurses := true, apart := false }
def FnOneLandSaid : Prop := fnOneLandRow.holds Tryz.pinned (OpenSpec.ofChange fnOneLandSpec)

/-- ITS FALSE NEIGHBOUR: 'it returns false'. Refute it at one input. -/
def fnOneLandWrong : ChangeSpec := { name := "fnOneLand", fn := fun _ => fun
  | [d] => { results := [.lit (.bool false)], args := [d] }
  | _ => none }
def FnOneLandWrongFalsely : Prop := fnOneLandRow.holds Tryz.pinned (OpenSpec.ofChange fnOneLandWrong)

/-- 'laws.FnOneDown': WHATEVER THE INPUT: true; the input reads as it did. -/
def fnOneDownSpec : ChangeSpec := { name := "fnOneDown", fn := fun _ => fun
  | [d] => { results := [.lit (.bool true)], args := [d] }
  | _ => none }
def fnOneDownRow : OpenClaim := { program := "ytmnapekfeenknaagreat", sum := "cc3e499f851fac119122ff8e8539359613466ad573effc6422dd1c707a6a807f", func := "loop.example/landmarch/laws.FnOneDown", spec := "fnOneDown", apart := false }
def FnOneDownSaid : Prop := fnOneDownRow.holds Tryz.pinned (OpenSpec.ofChange fnOneDownSpec)

/-- ITS FALSE NEIGHBOUR: 'it returns false'. Refute it at one input. -/
def fnOneDownWrong : ChangeSpec := { name := "fnOneDown", fn := fun _ => fun
  | [d] => { results := [.lit (.bool false)], args := [d] }
  | _ => none }
def FnOneDownWrongFalsely : Prop := fnOneDownRow.holds Tryz.pinned (OpenSpec.ofChange fnOneDownWrong)

/-- 'laws.FnOneApart': WHATEVER THE INPUT: true; the input reads as it did. -/
def fnOneApartSpec : ChangeSpec := { name := "fnOneApart", fn := fun _ => fun
  | [d1, d2] => { results := [.lit (.bool true)], args := [d1, d2] }
  | _ => none }
def fnOneApartRow : OpenClaim := { program := "ytmnapekfeenknaagreat", sum := "cc3e499f851fac119122ff8e8539359613466ad573effc6422dd1c707a6a807f", func := "loop.example/landmarch/laws.FnOneApart", spec := "fnOneApart", unfollowed := true, recurses := true, apart := false }
def FnOneApartSaid : Prop := fnOneApartRow.holds Tryz.pinned (OpenSpec.ofChange fnOneApartSpec)

/-- ITS FALSE NEIGHBOUR: 'it returns false'. Refute it at one input. -/
def fnOneApartWrong : ChangeSpec := { name := "fnOneApart", fn := fun _ => fun
  | [d1, d2] => { results := [.lit (.bool false)], args := [d1, d2] }
  | _ => none }
def FnOneApartWrongFalsely : Prop := fnOneApartRow.holds Tryz.pinned (OpenSpec.ofChange fnOneApartWrong)

/-- 'laws.FnOneOnce': WHATEVER THE INPUT: true; the input reads as it did. -/
def fnOneOnceSpec : ChangeSpec := { name := "fnOneOnce", fn := fun _ => fun
  | [d] => { results := [.lit (.bool true)], args := [d] }
  | _ => none }
def fnOneOnceRow : OpenClaim := { program := "ytmnapekfeenknaagreat", sum := "cc3e499f851fac119122ff8e8539359613466ad573effc6422dd1c707a6a807f", func := "loop.example/landmarch/laws.FnOneOnce", spec := "fnOneOnce", unfollowed := true, recurses := true, apart := false }
def FnOneOnceSaid : Prop := fnOneOnceRow.holds Tryz.pinned (OpenSpec.ofChange fnOneOnceSpec)

/-- ITS FALSE NEIGHBOUR: 'it returns false'. Refute it at one input. -/
def fnOneOnceWrong : ChangeSpec := { name := "fnOneOnce", fn := fun _ => fun
  | [d] => { results := [.lit (.bool false)], args := [d] }
  | _ => none }
def FnOneOnceWrongFalsely : Prop := fnOneOnceRow.holds Tryz.pinned (OpenSpec.ofChange fnOneOnceWrong)

/-- 'laws.FnOneDo': WHATEVER THE INPUT: true; the input reads as it did. -/
def fnOneDoSpec : ChangeSpec := { name := "fnOneDo", fn := fun _ => fun
  | [d] => { results := [.lit (.bool true)], args := [d] }
  | _ => none }
def fnOneDoRow : OpenClaim := { program := "ytmnapekfeenknaagreat", sum := "cc3e499f851fac119122ff8e8539359613466ad573effc6422dd1c707a6a807f", func := "loop.example/landmarch/laws.FnOneDo", spec := "fnOneDo", unfollowed := true, recurses := true, apart := false }
def FnOneDoSaid : Prop := fnOneDoRow.holds Tryz.pinned (OpenSpec.ofChange fnOneDoSpec)

/-- ITS FALSE NEIGHBOUR: 'it returns false'. Refute it at one input. -/
def fnOneDoWrong : ChangeSpec := { name := "fnOneDo", fn := fun _ => fun
  | [d] => { results := [.lit (.bool false)], args := [d] }
  | _ => none }
def FnOneDoWrongFalsely : Prop := fnOneDoRow.holds Tryz.pinned (OpenSpec.ofChange fnOneDoWrong)

/-- 'laws.FnWldOne': WHATEVER THE INPUT: true; the input reads as it did. -/
def fnWldOneSpec : ChangeSpec := { name := "fnWldOne", fn := fun _ => fun
  | [d] => { results := [.lit (.bool true)], args := [d] }
  | _ => none }
def fnWldOneRow : OpenClaim := { program := "ytmnapekfeenknaagreat", sum := "cc3e499f851fac119122ff8e8539359613466ad573effc6422dd1c707a6a807f", func := "loop.example/landmarch/laws.FnWldOne", spec := "fnWldOne", inPlace := ["slices.overlaps[loop.example/landmarch/impl.WlkWalker]", "slices.overlaps[loop.example/landmarch/impl.HldHolder]", "slices.overlaps[loop.example/landmarch/impl.GstGhost]"], unfollowed := true, recurses := true, apart := false }
def FnWldOneSaid : Prop := fnWldOneRow.holds Tryz.pinned (OpenSpec.ofChange fnWldOneSpec)

/-- ITS FALSE NEIGHBOUR: 'it returns false'. Refute it at one input. -/
def fnWldOneWrong : ChangeSpec := { name := "fnWldOne", fn := fun _ => fun
  | [d] => { results := [.lit (.bool false)], args := [d] }
  | _ => none }
def FnWldOneWrongFalsely : Prop := fnWldOneRow.holds Tryz.pinned (OpenSpec.ofChange fnWldOneWrong)

/- THE SECOND FORM. 'bulk': how many values and letters a reading holds, each counted each time it is reached (what is shared counts as often as it is met; a slice's spare places count too). A statement '..UptoSaid' is the law's where the arguments, and the package variables that the reading takes, are together of bulk at most 1048576: NARROWER than '..Said'. Prove '..Said' where nothing that the law and all that it calls make is longer than what came in: it says more and counts as full. Else prove '..UptoSaid'. A law counts once. -/
mutual
def uptoBulk {H : Type} : DataW H → Nat
  | .lit (.string bytes) => bytes.length + 1
  | .lit _ => 1
  | .nil => 1
  | .ptr d => uptoBulk d + 1
  | .slice elems spare => uptoBulkAll elems + uptoBulkAll spare + 1
  | .agg parts => uptoBulkAll parts + 1
  | .iface _ d => uptoBulk d + 1
  | .map entries => uptoBulkEntries entries + 1
  | .held _ => 1
def uptoBulkAll {H : Type} : List (DataW H) → Nat
  | [] => 0
  | d :: r => uptoBulk d + uptoBulkAll r
def uptoBulkEntries {H : Type} : List (Lit × DataW H) → Nat
  | [] => 0
  | x :: r => uptoBulkEntry x + uptoBulkEntries r
def uptoBulkEntry {H : Type} : Lit × DataW H → Nat
  | (.string bytes, d) => bytes.length + uptoBulk d + 1
  | (_, d) => uptoBulk d + 1
 end
def uptoSmall : (H : Type) → List (DataW H) → Bool := fun _ ds => decide (uptoBulkAll ds ≤ 1048576)
def OpenSpec.upto (s : _root_.Go.ChangeSpec) : _root_.Go.OpenSpec := { _root_.Go.OpenSpec.ofChange s with cond := some uptoSmall }

/-- 'laws.FnWldNew', WHERE WHAT IT READS IS OF BULK AT MOST 1048576: true; the input reads as it did. -/
def fnWldNewUptoRow : OpenClaim := { program := "ytmnapekfeenknaagreat", sum := "cc3e499f851fac119122ff8e8539359613466ad573effc6422dd1c707a6a807f", func := "loop.example/landmarch/laws.FnWldNew", spec := "fnWldNew", inPlace := ["slices.overlaps[loop.example/landmarch/impl.WlkWalker]"], unfollowed := true, recurses := true, apart := false, narrowed := true }
def FnWldNewUptoSaid : Prop := fnWldNewUptoRow.holds Tryz.pinned (OpenSpec.upto fnWldNewSpec)

/-- 'laws.FnOneLand', WHERE WHAT IT READS IS OF BULK AT MOST 1048576: true; the input reads as it did. -/
def fnOneLandUptoRow : OpenClaim := { program := "ytmnapekfeenknaagreat", sum := "cc3e499f851fac119122ff8e8539359613466ad573effc6422dd1c707a6a807f", func := "loop.example/landmarch/laws.FnOneLand", spec := "fnOneLand", unfollowed := true, recurses := true, apart := false, narrowed := true }
def FnOneLandUptoSaid : Prop := fnOneLandUptoRow.holds Tryz.pinned (OpenSpec.upto fnOneLandSpec)

/-- 'laws.FnOneDown', WHERE WHAT IT READS IS OF BULK AT MOST 1048576: true; the input reads as it did. -/
def fnOneDownUptoRow : OpenClaim := { program := "ytmnapekfeenknaagreat", sum := "cc3e499f851fac119122ff8e8539359613466ad573effc6422dd1c707a6a807f", func := "loop.example/landmarch/laws.FnOneDown", spec := "fnOneDown", apart := false, narrowed := true }
def FnOneDownUptoSaid : Prop := fnOneDownUptoRow.holds Tryz.pinned (OpenSpec.upto fnOneDownSpec)

/-- 'laws.FnOneApart', WHERE WHAT IT READS IS OF BULK AT MOST 1048576: true; the input reads as it did. -/
def fnOneApartUptoRow : OpenClaim := { program := "ytmnapekfeenknaagreat", sum := "cc3e499f851fac119122ff8e8539359613466ad573effc6422dd1c707a6a807f", func := "loop.example/landmarch/laws.FnOneApart", spec := "fnOneApart", unfollowed := true, recurses := true, apart := false, narrowed := true }
def FnOneApartUptoSaid : Prop := fnOneApartUptoRow.holds Tryz.pinned (OpenSpec.upto fnOneApartSpec)

/-- 'laws.FnOneOnce', WHERE WHAT IT READS IS OF BULK AT MOST 1048576: true; the input reads as it did. -/
def fnOneOnceUptoRow : OpenClaim := { program := "ytmnapekfeenknaagreat", sum := "cc3e499f851fac119122ff8e8539359613466ad573effc6422dd1c707a6a807f", func := "loop.example/landmarch/laws.FnOneOnce", spec := "fnOneOnce", unfollowed := true, recurses := true, apart := false, narrowed := true }
def FnOneOnceUptoSaid : Prop := fnOneOnceUptoRow.holds Tryz.pinned (OpenSpec.upto fnOneOnceSpec)

/-- 'laws.FnOneDo', WHERE WHAT IT READS IS OF BULK AT MOST 1048576: true; the input reads as it did. -/
def fnOneDoUptoRow : OpenClaim := { program := "ytmnapekfeenknaagreat", sum := "cc3e499f851fac119122ff8e8539359613466ad573effc6422dd1c707a6a807f", func := "loop.example/landmarch/laws.FnOneDo", spec := "fnOneDo", unfollowed := true, recurses := true, apart := false, narrowed := true }
def FnOneDoUptoSaid : Prop := fnOneDoUptoRow.holds Tryz.pinned (OpenSpec.upto fnOneDoSpec)

/-- 'laws.FnWldOne', WHERE WHAT IT READS IS OF BULK AT MOST 1048576: true; the input reads as it did. -/
def fnWldOneUptoRow : OpenClaim := { program := "ytmnapekfeenknaagreat", sum := "cc3e499f851fac119122ff8e8539359613466ad573effc6422dd1c707a6a807f", func := "loop.example/landmarch/laws.FnWldOne", spec := "fnWldOne", inPlace := ["slices.overlaps[loop.example/landmarch/impl.WlkWalker]", "slices.overlaps[loop.example/landmarch/impl.HldHolder]", "slices.overlaps[loop.example/landmarch/impl.GstGhost]"], unfollowed := true, recurses := true, apart := false, narrowed := true }
def FnWldOneUptoSaid : Prop := fnWldOneUptoRow.holds Tryz.pinned (OpenSpec.upto fnWldOneSpec)

end Rows
end Go.Proofs.YtmnapekfeenknaaGreat
