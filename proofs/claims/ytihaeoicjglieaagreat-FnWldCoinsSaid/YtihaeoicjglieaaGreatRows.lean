/-
  No cell of these rows narrows 'for every input' (looked for: loops, veiled, ifaces, maps, wideKeys, modest, calm, conditions, laid).
  DERIVED. THE GIVEN ROWS OF THIS SEAT. 9 by the template 'for every input the law returns true; each argument reads behind the call as it read before'; 0 by the template 'total and deterministic' (their statements: YtihaeoicjglieaaGreatTotals.lean).
  GIVEN WITH THE SEED: the statements are not yours to turn. If you find one false, say at which input.
  Laid BY PROGRAM, IN A SANDBOX (cutbox-rows.mjs): the forced cells as the released guide's own fill.sh prints them over the translation 9e53328084fb7c6b… (all of the seat's roots in one cut). By AI agents, Wed Nov 11 2026. No macro, syntax, notation, axiom, sorry.
-/
import Derived.Test.YtihaeoicjglieaaGreatChecked
import GoSem.Claim
import GoSem.ClaimJoined
import GoSem.ClaimMapViews
import Derived.JoinedTies
import Derived.KernelRfl
namespace Go.Proofs.YtihaeoicjglieaaGreat
/- THE CELL 'sum', in the pinned program and in every row, IS THE sha256 OF THE DUMP (.gsa) THAT YtihaeoicjglieaaGreatProg.lean LOADS. Nothing in Lean hashes anything: it is a label: what it is worth is what the hold of that sum in a sandbox is worth. -/
noncomputable def Tryz.pinned : Pinned := { name := "ytihaeoicjglieaagreat", sum := "9e53328084fb7c6bac2557ebaf135f05bf41c8306aec277e87b3ef815f381b07", checked := Tryz.checked }
namespace Rows
def none {H : Type} : Left H := { results := [], args := [] }

/-- 'laws.FnWldPlace': WHATEVER THE INPUT: true; the input reads as it did. -/
def fnWldPlaceSpec : ChangeSpec := { name := "fnWldPlace", fn := fun _ => fun
  | [d] => { results := [.lit (.bool true)], args := [d] }
  | _ => none }
def fnWldPlaceRow : OpenClaim := { program := "ytihaeoicjglieaagreat", sum := "9e53328084fb7c6bac2557ebaf135f05bf41c8306aec277e87b3ef815f381b07", func := "loop.example/landmarch/laws.FnWldPlace", spec := "fnWldPlace", inPlace := ["slices.overlaps[loop.example/landmarch/impl.WlkWalker]", "slices.overlaps[loop.example/landmarch/impl.HldHolder]", "slices.overlaps[loop.example/landmarch/impl.GstGhost]"], unfollowed := true, recurses := true, apart := false }
def FnWldPlaceSaid : Prop := fnWldPlaceRow.holds Tryz.pinned (OpenSpec.ofChange fnWldPlaceSpec)

/-- ITS FALSE NEIGHBOUR: 'it returns false'. Refute it at one input. -/
def fnWldPlaceWrong : ChangeSpec := { name := "fnWldPlace", fn := fun _ => fun
  | [d] => { results := [.lit (.bool false)], args := [d] }
  | _ => none }
def FnWldPlaceWrongFalsely : Prop := fnWldPlaceRow.holds Tryz.pinned (OpenSpec.ofChange fnWldPlaceWrong)

/-- 'laws.FnWldOne': WHATEVER THE INPUT: true; the input reads as it did. -/
def fnWldOneSpec : ChangeSpec := { name := "fnWldOne", fn := fun _ => fun
  | [d] => { results := [.lit (.bool true)], args := [d] }
  | _ => none }
def fnWldOneRow : OpenClaim := { program := "ytihaeoicjglieaagreat", sum := "9e53328084fb7c6bac2557ebaf135f05bf41c8306aec277e87b3ef815f381b07", func := "loop.example/landmarch/laws.FnWldOne", spec := "fnWldOne", inPlace := ["slices.overlaps[loop.example/landmarch/impl.WlkWalker]", "slices.overlaps[loop.example/landmarch/impl.HldHolder]", "slices.overlaps[loop.example/landmarch/impl.GstGhost]"], unfollowed := true, recurses := true, apart := false }
def FnWldOneSaid : Prop := fnWldOneRow.holds Tryz.pinned (OpenSpec.ofChange fnWldOneSpec)

/-- ITS FALSE NEIGHBOUR: 'it returns false'. Refute it at one input. -/
def fnWldOneWrong : ChangeSpec := { name := "fnWldOne", fn := fun _ => fun
  | [d] => { results := [.lit (.bool false)], args := [d] }
  | _ => none }
def FnWldOneWrongFalsely : Prop := fnWldOneRow.holds Tryz.pinned (OpenSpec.ofChange fnWldOneWrong)

/-- 'laws.FnWldCoins': WHATEVER THE INPUT: true; the input reads as it did. -/
def fnWldCoinsSpec : ChangeSpec := { name := "fnWldCoins", fn := fun _ => fun
  | [d] => { results := [.lit (.bool true)], args := [d] }
  | _ => none }
def fnWldCoinsRow : OpenClaim := { program := "ytihaeoicjglieaagreat", sum := "9e53328084fb7c6bac2557ebaf135f05bf41c8306aec277e87b3ef815f381b07", func := "loop.example/landmarch/laws.FnWldCoins", spec := "fnWldCoins", inPlace := ["slices.overlaps[loop.example/landmarch/impl.WlkWalker]", "slices.overlaps[loop.example/landmarch/impl.HldHolder]", "slices.overlaps[loop.example/landmarch/impl.GstGhost]"], unfollowed := true, recurses := true, apart := false }
def FnWldCoinsSaid : Prop := fnWldCoinsRow.holds Tryz.pinned (OpenSpec.ofChange fnWldCoinsSpec)

/-- ITS FALSE NEIGHBOUR: 'it returns false'. Refute it at one input. -/
def fnWldCoinsWrong : ChangeSpec := { name := "fnWldCoins", fn := fun _ => fun
  | [d] => { results := [.lit (.bool false)], args := [d] }
  | _ => none }
def FnWldCoinsWrongFalsely : Prop := fnWldCoinsRow.holds Tryz.pinned (OpenSpec.ofChange fnWldCoinsWrong)

/-- 'laws.FnWldAsk': WHATEVER THE INPUT: true; the input reads as it did. -/
def fnWldAskSpec : ChangeSpec := { name := "fnWldAsk", fn := fun _ => fun
  | [d] => { results := [.lit (.bool true)], args := [d] }
  | _ => none }
def fnWldAskRow : OpenClaim := { program := "ytihaeoicjglieaagreat", sum := "9e53328084fb7c6bac2557ebaf135f05bf41c8306aec277e87b3ef815f381b07", func := "loop.example/landmarch/laws.FnWldAsk", spec := "fnWldAsk", inPlace := ["slices.overlaps[loop.example/landmarch/impl.WlkWalker]", "slices.overlaps[loop.example/landmarch/impl.HldHolder]", "slices.overlaps[loop.example/landmarch/impl.GstGhost]"], unfollowed := true, recurses := true, apart := false }
def FnWldAskSaid : Prop := fnWldAskRow.holds Tryz.pinned (OpenSpec.ofChange fnWldAskSpec)

/-- ITS FALSE NEIGHBOUR: 'it returns false'. Refute it at one input. -/
def fnWldAskWrong : ChangeSpec := { name := "fnWldAsk", fn := fun _ => fun
  | [d] => { results := [.lit (.bool false)], args := [d] }
  | _ => none }
def FnWldAskWrongFalsely : Prop := fnWldAskRow.holds Tryz.pinned (OpenSpec.ofChange fnWldAskWrong)

/-- 'laws.FnWldDown': WHATEVER THE INPUT: true; the input reads as it did. -/
def fnWldDownSpec : ChangeSpec := { name := "fnWldDown", fn := fun _ => fun
  | [d] => { results := [.lit (.bool true)], args := [d] }
  | _ => none }
def fnWldDownRow : OpenClaim := { program := "ytihaeoicjglieaagreat", sum := "9e53328084fb7c6bac2557ebaf135f05bf41c8306aec277e87b3ef815f381b07", func := "loop.example/landmarch/laws.FnWldDown", spec := "fnWldDown", inPlace := ["slices.overlaps[loop.example/landmarch/impl.WlkWalker]", "slices.overlaps[loop.example/landmarch/impl.HldHolder]", "slices.overlaps[loop.example/landmarch/impl.GstGhost]"], unfollowed := true, recurses := true, apart := false }
def FnWldDownSaid : Prop := fnWldDownRow.holds Tryz.pinned (OpenSpec.ofChange fnWldDownSpec)

/-- ITS FALSE NEIGHBOUR: 'it returns false'. Refute it at one input. -/
def fnWldDownWrong : ChangeSpec := { name := "fnWldDown", fn := fun _ => fun
  | [d] => { results := [.lit (.bool false)], args := [d] }
  | _ => none }
def FnWldDownWrongFalsely : Prop := fnWldDownRow.holds Tryz.pinned (OpenSpec.ofChange fnWldDownWrong)

/-- 'laws.FnWldFall': WHATEVER THE INPUT: true; the input reads as it did. -/
def fnWldFallSpec : ChangeSpec := { name := "fnWldFall", fn := fun _ => fun
  | [d] => { results := [.lit (.bool true)], args := [d] }
  | _ => none }
def fnWldFallRow : OpenClaim := { program := "ytihaeoicjglieaagreat", sum := "9e53328084fb7c6bac2557ebaf135f05bf41c8306aec277e87b3ef815f381b07", func := "loop.example/landmarch/laws.FnWldFall", spec := "fnWldFall", inPlace := ["slices.overlaps[loop.example/landmarch/impl.WlkWalker]", "slices.overlaps[loop.example/landmarch/impl.HldHolder]", "slices.overlaps[loop.example/landmarch/impl.GstGhost]"], unfollowed := true, recurses := true, apart := false }
def FnWldFallSaid : Prop := fnWldFallRow.holds Tryz.pinned (OpenSpec.ofChange fnWldFallSpec)

/-- ITS FALSE NEIGHBOUR: 'it returns false'. Refute it at one input. -/
def fnWldFallWrong : ChangeSpec := { name := "fnWldFall", fn := fun _ => fun
  | [d] => { results := [.lit (.bool false)], args := [d] }
  | _ => none }
def FnWldFallWrongFalsely : Prop := fnWldFallRow.holds Tryz.pinned (OpenSpec.ofChange fnWldFallWrong)

/-- 'laws.FnWldGrant': WHATEVER THE INPUT: true; the input reads as it did. -/
def fnWldGrantSpec : ChangeSpec := { name := "fnWldGrant", fn := fun _ => fun
  | [d] => { results := [.lit (.bool true)], args := [d] }
  | _ => none }
def fnWldGrantRow : OpenClaim := { program := "ytihaeoicjglieaagreat", sum := "9e53328084fb7c6bac2557ebaf135f05bf41c8306aec277e87b3ef815f381b07", func := "loop.example/landmarch/laws.FnWldGrant", spec := "fnWldGrant", inPlace := ["slices.overlaps[loop.example/landmarch/impl.WlkWalker]", "slices.overlaps[loop.example/landmarch/impl.HldHolder]", "slices.overlaps[loop.example/landmarch/impl.GstGhost]"], unfollowed := true, recurses := true, apart := false }
def FnWldGrantSaid : Prop := fnWldGrantRow.holds Tryz.pinned (OpenSpec.ofChange fnWldGrantSpec)

/-- ITS FALSE NEIGHBOUR: 'it returns false'. Refute it at one input. -/
def fnWldGrantWrong : ChangeSpec := { name := "fnWldGrant", fn := fun _ => fun
  | [d] => { results := [.lit (.bool false)], args := [d] }
  | _ => none }
def FnWldGrantWrongFalsely : Prop := fnWldGrantRow.holds Tryz.pinned (OpenSpec.ofChange fnWldGrantWrong)

/-- 'laws.FnWldLose': WHATEVER THE INPUT: true; the input reads as it did. -/
def fnWldLoseSpec : ChangeSpec := { name := "fnWldLose", fn := fun _ => fun
  | [d] => { results := [.lit (.bool true)], args := [d] }
  | _ => none }
def fnWldLoseRow : OpenClaim := { program := "ytihaeoicjglieaagreat", sum := "9e53328084fb7c6bac2557ebaf135f05bf41c8306aec277e87b3ef815f381b07", func := "loop.example/landmarch/laws.FnWldLose", spec := "fnWldLose", inPlace := ["slices.overlaps[loop.example/landmarch/impl.WlkWalker]", "slices.overlaps[loop.example/landmarch/impl.HldHolder]", "slices.overlaps[loop.example/landmarch/impl.GstGhost]"], unfollowed := true, recurses := true, apart := false }
def FnWldLoseSaid : Prop := fnWldLoseRow.holds Tryz.pinned (OpenSpec.ofChange fnWldLoseSpec)

/-- ITS FALSE NEIGHBOUR: 'it returns false'. Refute it at one input. -/
def fnWldLoseWrong : ChangeSpec := { name := "fnWldLose", fn := fun _ => fun
  | [d] => { results := [.lit (.bool false)], args := [d] }
  | _ => none }
def FnWldLoseWrongFalsely : Prop := fnWldLoseRow.holds Tryz.pinned (OpenSpec.ofChange fnWldLoseWrong)

/-- 'laws.FnWldLogs': WHATEVER THE INPUT: true; the input reads as it did. -/
def fnWldLogsSpec : ChangeSpec := { name := "fnWldLogs", fn := fun _ => fun
  | [d] => { results := [.lit (.bool true)], args := [d] }
  | _ => none }
def fnWldLogsRow : OpenClaim := { program := "ytihaeoicjglieaagreat", sum := "9e53328084fb7c6bac2557ebaf135f05bf41c8306aec277e87b3ef815f381b07", func := "loop.example/landmarch/laws.FnWldLogs", spec := "fnWldLogs", inPlace := ["slices.overlaps[loop.example/landmarch/impl.WlkWalker]", "slices.overlaps[loop.example/landmarch/impl.HldHolder]", "slices.overlaps[loop.example/landmarch/impl.GstGhost]"], unfollowed := true, recurses := true, apart := false }
def FnWldLogsSaid : Prop := fnWldLogsRow.holds Tryz.pinned (OpenSpec.ofChange fnWldLogsSpec)

/-- ITS FALSE NEIGHBOUR: 'it returns false'. Refute it at one input. -/
def fnWldLogsWrong : ChangeSpec := { name := "fnWldLogs", fn := fun _ => fun
  | [d] => { results := [.lit (.bool false)], args := [d] }
  | _ => none }
def FnWldLogsWrongFalsely : Prop := fnWldLogsRow.holds Tryz.pinned (OpenSpec.ofChange fnWldLogsWrong)

/- THE SECOND FORM. 'bulk': how many values and letters a reading holds, each counted each time it is reached (what is shared counts as often as it is met; a slice's spare places count too). A statement '..UptoSaid' is the law's where the arguments, and the package variables that the reading takes, are together of bulk at most 1048576: NARROWER than '..Said'. Prove '..Said' where nothing that the law and all that it calls make is longer than what came in: it says more and counts as full. Else prove '..UptoSaid'. A law counts once. -/
mutual
def uptoBulk {H : Type} : DataW H → Nat
  | .lit (.string bytes) => bytes.length + 1
  | .lit _ => 1
  | .nil => 1
  | .ptr d => uptoBulk d + 1
  | .slice elems spare => uptoBulkAll elems + uptoBulkAll spare + 1
  | .agg parts => uptoBulkAll parts + 1
  | .iface _ d => uptoBulk d + 1
  | .map entries => uptoBulkEntries entries + 1
  | .held _ => 1
def uptoBulkAll {H : Type} : List (DataW H) → Nat
  | [] => 0
  | d :: r => uptoBulk d + uptoBulkAll r
def uptoBulkEntries {H : Type} : List (Lit × DataW H) → Nat
  | [] => 0
  | x :: r => uptoBulkEntry x + uptoBulkEntries r
def uptoBulkEntry {H : Type} : Lit × DataW H → Nat
  | (.string bytes, d) => bytes.length + uptoBulk d + 1
  | (_, d) => uptoBulk d + 1
 end
def uptoSmall : (H : Type) → List (DataW H) → Bool := fun _ ds => decide (uptoBulkAll ds ≤ 1048576)
def OpenSpec.upto (s : _root_.Go.ChangeSpec) : _root_.Go.OpenSpec := { _root_.Go.OpenSpec.ofChange s with cond := some uptoSmall }

/-- 'laws.FnWldPlace', WHERE WHAT IT READS IS OF BULK AT MOST 1048576: true; the input reads as it did. -/
def fnWldPlaceUptoRow : OpenClaim := { program := "ytihaeoicjglieaagreat", sum := "9e53328084fb7c6bac2557ebaf135f05bf41c8306aec277e87b3ef815f381b07", func := "loop.example/landmarch/laws.FnWldPlace", spec := "fnWldPlace", inPlace := ["slices.overlaps[loop.example/landmarch/impl.WlkWalker]", "slices.overlaps[loop.example/landmarch/impl.HldHolder]", "slices.overlaps[loop.example/landmarch/impl.GstGhost]"], unfollowed := true, recurses := true, apart := false, narrowed := true }
def FnWldPlaceUptoSaid : Prop := fnWldPlaceUptoRow.holds Tryz.pinned (OpenSpec.upto fnWldPlaceSpec)

/-- 'laws.FnWldOne', WHERE WHAT IT READS IS OF BULK AT MOST 1048576: true; the input reads as it did. -/
def fnWldOneUptoRow : OpenClaim := { program := "ytihaeoicjglieaagreat", sum := "9e53328084fb7c6bac2557ebaf135f05bf41c8306aec277e87b3ef815f381b07", func := "loop.example/landmarch/laws.FnWldOne", spec := "fnWldOne", inPlace := ["slices.overlaps[loop.example/landmarch/impl.WlkWalker]", "slices.overlaps[loop.example/landmarch/impl.HldHolder]", "slices.overlaps[loop.example/landmarch/impl.GstGhost]"], unfollowed := true, recurses := true, apart := false, narrowed := true }
def FnWldOneUptoSaid : Prop := fnWldOneUptoRow.holds Tryz.pinned (OpenSpec.upto fnWldOneSpec)

/-- 'laws.FnWldCoins', WHERE WHAT IT READS IS OF BULK AT MOST 1048576: true; the input reads as it did. -/
def fnWldCoinsUptoRow : OpenClaim := { program := "ytihaeoicjglieaagreat", sum := "9e53328084fb7c6bac2557ebaf135f05bf41c8306aec277e87b3ef815f381b07", func := "loop.example/landmarch/laws.FnWldCoins", spec := "fnWldCoins", inPlace := ["slices.overlaps[loop.example/landmarch/impl.WlkWalker]", "slices.overlaps[loop.example/landmarch/impl.HldHolder]", "slices.overlaps[loop.example/landmarch/impl.GstGhost]"], unfollowed := true, recurses := true, apart := false, narrowed := true }
def FnWldCoinsUptoSaid : Prop := fnWldCoinsUptoRow.holds Tryz.pinned (OpenSpec.upto fnWldCoinsSpec)

/-- 'laws.FnWldAsk', WHERE WHAT IT READS IS OF BULK AT MOST 1048576: true; the input reads as it did. -/
def fnWldAskUptoRow : OpenClaim := { program := "ytihaeoicjglieaagreat", sum := "9e53328084fb7c6bac2557ebaf135f05bf41c8306aec277e87b3ef815f381b07", func := "loop.example/landmarch/laws.FnWldAsk", spec := "fnWldAsk", inPlace := ["slices.overlaps[loop.example/landmarch/impl.WlkWalker]", "slices.overlaps[loop.example/landmarch/impl.HldHolder]", "slices.overlaps[loop.example/landmarch/impl.GstGhost]"], unfollowed := true, recurses := true, apart := false, narrowed := true }
def FnWldAskUptoSaid : Prop := fnWldAskUptoRow.holds Tryz.pinned (OpenSpec.upto fnWldAskSpec)

/-- 'laws.FnWldDown', WHERE WHAT IT READS IS OF BULK AT MOST 1048576: true; the input reads as it did. -/
def fnWldDownUptoRow : OpenClaim := { program := "ytihaeoicjglieaagreat", sum := "9e53328084fb7c6bac2557ebaf135f05bf41c8306aec277e87b3ef815f381b07", func := "loop.example/landmarch/laws.FnWldDown", spec := "fnWldDown", inPlace := ["slices.overlaps[loop.example/landmarch/impl.WlkWalker]", "slices.overlaps[loop.example/landmarch/impl.HldHolder]", "slices.overlaps[loop.example/landmarch/impl.GstGhost]"], unfollowed := true, recurses := true, apart := false, narrowed := true }
def FnWldDownUptoSaid : Prop := fnWldDownUptoRow.holds Tryz.pinned (OpenSpec.upto fnWldDownSpec)

/-- 'laws.FnWldFall', WHERE WHAT IT READS IS OF BULK AT MOST 1048576: true; the input reads as it did. -/
def fnWldFallUptoRow : OpenClaim := { program := "ytihaeoicjglieaagreat", sum := "9e53328084fb7c6bac2557ebaf135f05bf41c8306aec277e87b3ef815f381b07", func := "loop.example/landmarch/laws.FnWldFall", spec := "fnWldFall", inPlace := ["slices.overlaps[loop.example/landmarch/impl.WlkWalker]", "slices.overlaps[loop.example/landmarch/impl.HldHolder]", "slices.overlaps[loop.example/landmarch/impl.GstGhost]"], unfollowed := true, recurses := true, apart := false, narrowed := true }
def FnWldFallUptoSaid : Prop := fnWldFallUptoRow.holds Tryz.pinned (OpenSpec.upto fnWldFallSpec)

/-- 'laws.FnWldGrant', WHERE WHAT IT READS IS OF BULK AT MOST 1048576: true; the input reads as it did. -/
def fnWldGrantUptoRow : OpenClaim := { program := "ytihaeoicjglieaagreat", sum := "9e53328084fb7c6bac2557ebaf135f05bf41c8306aec277e87b3ef815f381b07", func := "loop.example/landmarch/laws.FnWldGrant", spec := "fnWldGrant", inPlace := ["slices.overlaps[loop.example/landmarch/impl.WlkWalker]", "slices.overlaps[loop.example/landmarch/impl.HldHolder]", "slices.overlaps[loop.example/landmarch/impl.GstGhost]"], unfollowed := true, recurses := true, apart := false, narrowed := true }
def FnWldGrantUptoSaid : Prop := fnWldGrantUptoRow.holds Tryz.pinned (OpenSpec.upto fnWldGrantSpec)

/-- 'laws.FnWldLose', WHERE WHAT IT READS IS OF BULK AT MOST 1048576: true; the input reads as it did. -/
def fnWldLoseUptoRow : OpenClaim := { program := "ytihaeoicjglieaagreat", sum := "9e53328084fb7c6bac2557ebaf135f05bf41c8306aec277e87b3ef815f381b07", func := "loop.example/landmarch/laws.FnWldLose", spec := "fnWldLose", inPlace := ["slices.overlaps[loop.example/landmarch/impl.WlkWalker]", "slices.overlaps[loop.example/landmarch/impl.HldHolder]", "slices.overlaps[loop.example/landmarch/impl.GstGhost]"], unfollowed := true, recurses := true, apart := false, narrowed := true }
def FnWldLoseUptoSaid : Prop := fnWldLoseUptoRow.holds Tryz.pinned (OpenSpec.upto fnWldLoseSpec)

/-- 'laws.FnWldLogs', WHERE WHAT IT READS IS OF BULK AT MOST 1048576: true; the input reads as it did. -/
def fnWldLogsUptoRow : OpenClaim := { program := "ytihaeoicjglieaagreat", sum := "9e53328084fb7c6bac2557ebaf135f05bf41c8306aec277e87b3ef815f381b07", func := "loop.example/landmarch/laws.FnWldLogs", spec := "fnWldLogs", inPlace := ["slices.overlaps[loop.example/landmarch/impl.WlkWalker]", "slices.overlaps[loop.example/landmarch/impl.HldHolder]", "slices.overlaps[loop.example/landmarch/impl.GstGhost]"], unfollowed := true, recurses := true, apart := false, narrowed := true }
def FnWldLogsUptoSaid : Prop := fnWldLogsUptoRow.holds Tryz.pinned (OpenSpec.upto fnWldLogsSpec)

end Rows
end Go.Proofs.YtihaeoicjglieaaGreat
