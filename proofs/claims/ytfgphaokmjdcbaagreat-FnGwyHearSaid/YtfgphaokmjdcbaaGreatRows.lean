/-
  No cell of these rows narrows 'for every input' (looked for: loops, veiled, ifaces, maps, wideKeys, modest, calm, conditions, laid).
  DERIVED. THE GIVEN ROWS OF THIS SEAT. 7 by the template 'for every input the law returns true; each argument reads behind the call as it read before'; 0 by the template 'total and deterministic' (their statements: YtfgphaokmjdcbaaGreatTotals.lean).
  GIVEN WITH THE SEED: the statements are not yours to turn. If you find one false, say at which input.
  Laid BY PROGRAM, IN A SANDBOX (cutbox-rows.mjs): the forced cells as the released guide's own fill.sh prints them over the translation e96f0acd5ca42b17… (all of the seat's roots in one cut). By AI agents, Wed Nov 11 2026. No macro, syntax, notation, axiom, sorry.
-/
import Derived.Test.YtfgphaokmjdcbaaGreatChecked
import GoSem.Claim
import GoSem.ClaimJoined
import GoSem.ClaimMapViews
import Derived.JoinedTies
import Derived.KernelRfl
namespace Go.Proofs.YtfgphaokmjdcbaaGreat
/- THE CELL 'sum', in the pinned program and in every row, IS THE sha256 OF THE DUMP (.gsa) THAT YtfgphaokmjdcbaaGreatProg.lean LOADS. Nothing in Lean hashes anything: it is a label: what it is worth is what the hold of that sum in a sandbox is worth. -/
noncomputable def Tryz.pinned : Pinned := { name := "ytfgphaokmjdcbaagreat", sum := "e96f0acd5ca42b1771c2f5ffdd89cc9a0e171a0d1ff2ba6937498b08c0b4638e", checked := Tryz.checked }
namespace Rows
def none {H : Type} : Left H := { results := [], args := [] }

/-- 'laws.FnGwyHear': WHATEVER THE INPUT: true; the input reads as it did. -/
def fnGwyHearSpec : ChangeSpec := { name := "fnGwyHear", fn := fun _ => fun
  | [d] => { results := [.lit (.bool true)], args := [d] }
  | _ => none }
def fnGwyHearRow : OpenClaim := { program := "ytfgphaokmjdcbaagreat", sum := "e96f0acd5ca42b1771c2f5ffdd89cc9a0e171a0d1ff2ba6937498b08c0b4638e", func := "loop.example/landmarch/laws.FnGwyHear", spec := "fnGwyHear", unfollowed := true, recurses := true, apart := false }
def FnGwyHearSaid : Prop := fnGwyHearRow.holds Tryz.pinned (OpenSpec.ofChange fnGwyHearSpec)

/-- ITS FALSE NEIGHBOUR: 'it returns false'. Refute it at one input. -/
def fnGwyHearWrong : ChangeSpec := { name := "fnGwyHear", fn := fun _ => fun
  | [d] => { results := [.lit (.bool false)], args := [d] }
  | _ => none }
def FnGwyHearWrongFalsely : Prop := fnGwyHearRow.holds Tryz.pinned (OpenSpec.ofChange fnGwyHearWrong)

/-- 'laws.FnSrvOne': WHATEVER THE INPUT: true; the input reads as it did. -/
def fnSrvOneSpec : ChangeSpec := { name := "fnSrvOne", fn := fun _ => fun
  | [d] => { results := [.lit (.bool true)], args := [d] }
  | _ => none }
def fnSrvOneRow : OpenClaim := { program := "ytfgphaokmjdcbaagreat", sum := "e96f0acd5ca42b1771c2f5ffdd89cc9a0e171a0d1ff2ba6937498b08c0b4638e", func := "loop.example/landmarch/laws.FnSrvOne", spec := "fnSrvOne", inPlace := ["slices.overlaps[loop.example/landmarch/impl.WlkWalker]", "slices.overlaps[loop.example/landmarch/impl.HldHolder]", "slices.overlaps[loop.example/landmarch/impl.GstGhost]"], unfollowed := true, recurses := true, apart := false }
def FnSrvOneSaid : Prop := fnSrvOneRow.holds Tryz.pinned (OpenSpec.ofChange fnSrvOneSpec)

/-- ITS FALSE NEIGHBOUR: 'it returns false'. Refute it at one input. -/
def fnSrvOneWrong : ChangeSpec := { name := "fnSrvOne", fn := fun _ => fun
  | [d] => { results := [.lit (.bool false)], args := [d] }
  | _ => none }
def FnSrvOneWrongFalsely : Prop := fnSrvOneRow.holds Tryz.pinned (OpenSpec.ofChange fnSrvOneWrong)

/-- 'laws.FnSrvStays': WHATEVER THE INPUT: true; the input reads as it did. -/
def fnSrvStaysSpec : ChangeSpec := { name := "fnSrvStays", fn := fun _ => fun
  | [d] => { results := [.lit (.bool true)], args := [d] }
  | _ => none }
def fnSrvStaysRow : OpenClaim := { program := "ytfgphaokmjdcbaagreat", sum := "e96f0acd5ca42b1771c2f5ffdd89cc9a0e171a0d1ff2ba6937498b08c0b4638e", func := "loop.example/landmarch/laws.FnSrvStays", spec := "fnSrvStays", inPlace := ["slices.overlaps[loop.example/landmarch/impl.WlkWalker]", "slices.overlaps[loop.example/landmarch/impl.HldHolder]", "slices.overlaps[loop.example/landmarch/impl.GstGhost]"], unfollowed := true, recurses := true, apart := false }
def FnSrvStaysSaid : Prop := fnSrvStaysRow.holds Tryz.pinned (OpenSpec.ofChange fnSrvStaysSpec)

/-- ITS FALSE NEIGHBOUR: 'it returns false'. Refute it at one input. -/
def fnSrvStaysWrong : ChangeSpec := { name := "fnSrvStays", fn := fun _ => fun
  | [d] => { results := [.lit (.bool false)], args := [d] }
  | _ => none }
def FnSrvStaysWrongFalsely : Prop := fnSrvStaysRow.holds Tryz.pinned (OpenSpec.ofChange fnSrvStaysWrong)

/-- 'laws.FnSrvTwice': WHATEVER THE INPUT: true; the input reads as it did. -/
def fnSrvTwiceSpec : ChangeSpec := { name := "fnSrvTwice", fn := fun _ => fun
  | [d] => { results := [.lit (.bool true)], args := [d] }
  | _ => none }
def fnSrvTwiceRow : OpenClaim := { program := "ytfgphaokmjdcbaagreat", sum := "e96f0acd5ca42b1771c2f5ffdd89cc9a0e171a0d1ff2ba6937498b08c0b4638e", func := "loop.example/landmarch/laws.FnSrvTwice", spec := "fnSrvTwice", inPlace := ["slices.overlaps[loop.example/landmarch/impl.WlkWalker]", "slices.overlaps[loop.example/landmarch/impl.HldHolder]", "slices.overlaps[loop.example/landmarch/impl.GstGhost]"], unfollowed := true, recurses := true, apart := false }
def FnSrvTwiceSaid : Prop := fnSrvTwiceRow.holds Tryz.pinned (OpenSpec.ofChange fnSrvTwiceSpec)

/-- ITS FALSE NEIGHBOUR: 'it returns false'. Refute it at one input. -/
def fnSrvTwiceWrong : ChangeSpec := { name := "fnSrvTwice", fn := fun _ => fun
  | [d] => { results := [.lit (.bool false)], args := [d] }
  | _ => none }
def FnSrvTwiceWrongFalsely : Prop := fnSrvTwiceRow.holds Tryz.pinned (OpenSpec.ofChange fnSrvTwiceWrong)

/-- 'laws.FnSrvDown': WHATEVER THE INPUT: true; the input reads as it did. -/
def fnSrvDownSpec : ChangeSpec := { name := "fnSrvDown", fn := fun _ => fun
  | [d] => { results := [.lit (.bool true)], args := [d] }
  | _ => none }
def fnSrvDownRow : OpenClaim := { program := "ytfgphaokmjdcbaagreat", sum := "e96f0acd5ca42b1771c2f5ffdd89cc9a0e171a0d1ff2ba6937498b08c0b4638e", func := "loop.example/landmarch/laws.FnSrvDown", spec := "fnSrvDown", inPlace := ["slices.overlaps[loop.example/landmarch/impl.WlkWalker]", "slices.overlaps[loop.example/landmarch/impl.HldHolder]", "slices.overlaps[loop.example/landmarch/impl.GstGhost]"], unfollowed := true, recurses := true, apart := false }
def FnSrvDownSaid : Prop := fnSrvDownRow.holds Tryz.pinned (OpenSpec.ofChange fnSrvDownSpec)

/-- ITS FALSE NEIGHBOUR: 'it returns false'. Refute it at one input. -/
def fnSrvDownWrong : ChangeSpec := { name := "fnSrvDown", fn := fun _ => fun
  | [d] => { results := [.lit (.bool false)], args := [d] }
  | _ => none }
def FnSrvDownWrongFalsely : Prop := fnSrvDownRow.holds Tryz.pinned (OpenSpec.ofChange fnSrvDownWrong)

/-- 'laws.FnSrvGrant': WHATEVER THE INPUT: true; the input reads as it did. -/
def fnSrvGrantSpec : ChangeSpec := { name := "fnSrvGrant", fn := fun _ => fun
  | [d] => { results := [.lit (.bool true)], args := [d] }
  | _ => none }
def fnSrvGrantRow : OpenClaim := { program := "ytfgphaokmjdcbaagreat", sum := "e96f0acd5ca42b1771c2f5ffdd89cc9a0e171a0d1ff2ba6937498b08c0b4638e", func := "loop.example/landmarch/laws.FnSrvGrant", spec := "fnSrvGrant", inPlace := ["slices.overlaps[loop.example/landmarch/impl.WlkWalker]", "slices.overlaps[loop.example/landmarch/impl.HldHolder]", "slices.overlaps[loop.example/landmarch/impl.GstGhost]"], unfollowed := true, recurses := true, apart := false }
def FnSrvGrantSaid : Prop := fnSrvGrantRow.holds Tryz.pinned (OpenSpec.ofChange fnSrvGrantSpec)

/-- ITS FALSE NEIGHBOUR: 'it returns false'. Refute it at one input. -/
def fnSrvGrantWrong : ChangeSpec := { name := "fnSrvGrant", fn := fun _ => fun
  | [d] => { results := [.lit (.bool false)], args := [d] }
  | _ => none }
def FnSrvGrantWrongFalsely : Prop := fnSrvGrantRow.holds Tryz.pinned (OpenSpec.ofChange fnSrvGrantWrong)

/-- 'laws.FnSrvTold': WHATEVER THE INPUT: true; the input reads as it did. -/
def fnSrvToldSpec : ChangeSpec := { name := "fnSrvTold", fn := fun _ => fun
  | [d] => { results := [.lit (.bool true)], args := [d] }
  | _ => none }
def fnSrvToldRow : OpenClaim := { program := "ytfgphaokmjdcbaagreat", sum := "e96f0acd5ca42b1771c2f5ffdd89cc9a0e171a0d1ff2ba6937498b08c0b4638e", func := "loop.example/landmarch/laws.FnSrvTold", spec := "fnSrvTold", inPlace := ["slices.overlaps[loop.example/landmarch/impl.WlkWalker]", "slices.overlaps[loop.example/landmarch/impl.HldHolder]", "slices.overlaps[loop.example/landmarch/impl.GstGhost]"], unfollowed := true, recurses := true, apart := false }
def FnSrvToldSaid : Prop := fnSrvToldRow.holds Tryz.pinned (OpenSpec.ofChange fnSrvToldSpec)

/-- ITS FALSE NEIGHBOUR: 'it returns false'. Refute it at one input. -/
def fnSrvToldWrong : ChangeSpec := { name := "fnSrvTold", fn := fun _ => fun
  | [d] => { results := [.lit (.bool false)], args := [d] }
  | _ => none }
def FnSrvToldWrongFalsely : Prop := fnSrvToldRow.holds Tryz.pinned (OpenSpec.ofChange fnSrvToldWrong)

/- THE SECOND FORM. 'bulk': how many values and letters a reading holds, each counted each time it is reached (what is shared counts as often as it is met; a slice's spare places count too). A statement '..UptoSaid' is the law's where the arguments, and the package variables that the reading takes, are together of bulk at most 1048576: NARROWER than '..Said'. Prove '..Said' where nothing that the law and all that it calls make is longer than what came in: it says more and counts as full. Else prove '..UptoSaid'. A law counts once. -/
mutual
def uptoBulk {H : Type} : DataW H → Nat
  | .lit (.string bytes) => bytes.length + 1
  | .lit _ => 1
  | .nil => 1
  | .ptr d => uptoBulk d + 1
  | .slice elems spare => uptoBulkAll elems + uptoBulkAll spare + 1
  | .agg parts => uptoBulkAll parts + 1
  | .iface _ d => uptoBulk d + 1
  | .map entries => uptoBulkEntries entries + 1
  | .held _ => 1
def uptoBulkAll {H : Type} : List (DataW H) → Nat
  | [] => 0
  | d :: r => uptoBulk d + uptoBulkAll r
def uptoBulkEntries {H : Type} : List (Lit × DataW H) → Nat
  | [] => 0
  | x :: r => uptoBulkEntry x + uptoBulkEntries r
def uptoBulkEntry {H : Type} : Lit × DataW H → Nat
  | (.string bytes, d) => bytes.length + uptoBulk d + 1
  | (_, d) => uptoBulk d + 1
 end
def uptoSmall : (H : Type) → List (DataW H) → Bool := fun _ ds => decide (uptoBulkAll ds ≤ 1048576)
def OpenSpec.upto (s : _root_.Go.ChangeSpec) : _root_.Go.OpenSpec := { _root_.Go.OpenSpec.ofChange s with cond := some uptoSmall }

/-- 'laws.FnGwyHear', WHERE WHAT IT READS IS OF BULK AT MOST 1048576: true; the input reads as it did. -/
def fnGwyHearUptoRow : OpenClaim := { program := "ytfgphaokmjdcbaagreat", sum := "e96f0acd5ca42b1771c2f5ffdd89cc9a0e171a0d1ff2ba6937498b08c0b4638e", func := "loop.example/landmarch/laws.FnGwyHear", spec := "fnGwyHear", unfollowed := true, recurses := true, apart := false, narrowed := true }
def FnGwyHearUptoSaid : Prop := fnGwyHearUptoRow.holds Tryz.pinned (OpenSpec.upto fnGwyHearSpec)

/-- 'laws.FnSrvOne', WHERE WHAT IT READS IS OF BULK AT MOST 1048576: true; the input reads as it did. -/
def fnSrvOneUptoRow : OpenClaim := { program := "ytfgphaokmjdcbaagreat", sum := "e96f0acd5ca42b1771c2f5ffdd89cc9a0e171a0d1ff2ba6937498b08c0b4638e", func := "loop.example/landmarch/laws.FnSrvOne", spec := "fnSrvOne", inPlace := ["slices.overlaps[loop.example/landmarch/impl.WlkWalker]", "slices.overlaps[loop.example/landmarch/impl.HldHolder]", "slices.overlaps[loop.example/landmarch/impl.GstGhost]"], unfollowed := true, recurses := true, apart := false, narrowed := true }
def FnSrvOneUptoSaid : Prop := fnSrvOneUptoRow.holds Tryz.pinned (OpenSpec.upto fnSrvOneSpec)

/-- 'laws.FnSrvStays', WHERE WHAT IT READS IS OF BULK AT MOST 1048576: true; the input reads as it did. -/
def fnSrvStaysUptoRow : OpenClaim := { program := "ytfgphaokmjdcbaagreat", sum := "e96f0acd5ca42b1771c2f5ffdd89cc9a0e171a0d1ff2ba6937498b08c0b4638e", func := "loop.example/landmarch/laws.FnSrvStays", spec := "fnSrvStays", inPlace := ["slices.overlaps[loop.example/landmarch/impl.WlkWalker]", "slices.overlaps[loop.example/landmarch/impl.HldHolder]", "slices.overlaps[loop.example/landmarch/impl.GstGhost]"], unfollowed := true, recurses := true, apart := false, narrowed := true }
def FnSrvStaysUptoSaid : Prop := fnSrvStaysUptoRow.holds Tryz.pinned (OpenSpec.upto fnSrvStaysSpec)

/-- 'laws.FnSrvTwice', WHERE WHAT IT READS IS OF BULK AT MOST 1048576: true; the input reads as it did. -/
def fnSrvTwiceUptoRow : OpenClaim := { program := "ytfgphaokmjdcbaagreat", sum := "e96f0acd5ca42b1771c2f5ffdd89cc9a0e171a0d1ff2ba6937498b08c0b4638e", func := "loop.example/landmarch/laws.FnSrvTwice", spec := "fnSrvTwice", inPlace := ["slices.overlaps[loop.example/landmarch/impl.WlkWalker]", "slices.overlaps[loop.example/landmarch/impl.HldHolder]", "slices.overlaps[loop.example/landmarch/impl.GstGhost]"], unfollowed := true, recurses := true, apart := false, narrowed := true }
def FnSrvTwiceUptoSaid : Prop := fnSrvTwiceUptoRow.holds Tryz.pinned (OpenSpec.upto fnSrvTwiceSpec)

/-- 'laws.FnSrvDown', WHERE WHAT IT READS IS OF BULK AT MOST 1048576: true; the input reads as it did. -/
def fnSrvDownUptoRow : OpenClaim := { program := "ytfgphaokmjdcbaagreat", sum := "e96f0acd5ca42b1771c2f5ffdd89cc9a0e171a0d1ff2ba6937498b08c0b4638e", func := "loop.example/landmarch/laws.FnSrvDown", spec := "fnSrvDown", inPlace := ["slices.overlaps[loop.example/landmarch/impl.WlkWalker]", "slices.overlaps[loop.example/landmarch/impl.HldHolder]", "slices.overlaps[loop.example/landmarch/impl.GstGhost]"], unfollowed := true, recurses := true, apart := false, narrowed := true }
def FnSrvDownUptoSaid : Prop := fnSrvDownUptoRow.holds Tryz.pinned (OpenSpec.upto fnSrvDownSpec)

/-- 'laws.FnSrvGrant', WHERE WHAT IT READS IS OF BULK AT MOST 1048576: true; the input reads as it did. -/
def fnSrvGrantUptoRow : OpenClaim := { program := "ytfgphaokmjdcbaagreat", sum := "e96f0acd5ca42b1771c2f5ffdd89cc9a0e171a0d1ff2ba6937498b08c0b4638e", func := "loop.example/landmarch/laws.FnSrvGrant", spec := "fnSrvGrant", inPlace := ["slices.overlaps[loop.example/landmarch/impl.WlkWalker]", "slices.overlaps[loop.example/landmarch/impl.HldHolder]", "slices.overlaps[loop.example/landmarch/impl.GstGhost]"], unfollowed := true, recurses := true, apart := false, narrowed := true }
def FnSrvGrantUptoSaid : Prop := fnSrvGrantUptoRow.holds Tryz.pinned (OpenSpec.upto fnSrvGrantSpec)

/-- 'laws.FnSrvTold', WHERE WHAT IT READS IS OF BULK AT MOST 1048576: true; the input reads as it did. -/
def fnSrvToldUptoRow : OpenClaim := { program := "ytfgphaokmjdcbaagreat", sum := "e96f0acd5ca42b1771c2f5ffdd89cc9a0e171a0d1ff2ba6937498b08c0b4638e", func := "loop.example/landmarch/laws.FnSrvTold", spec := "fnSrvTold", inPlace := ["slices.overlaps[loop.example/landmarch/impl.WlkWalker]", "slices.overlaps[loop.example/landmarch/impl.HldHolder]", "slices.overlaps[loop.example/landmarch/impl.GstGhost]"], unfollowed := true, recurses := true, apart := false, narrowed := true }
def FnSrvToldUptoSaid : Prop := fnSrvToldUptoRow.holds Tryz.pinned (OpenSpec.upto fnSrvToldSpec)

end Rows
end Go.Proofs.YtfgphaokmjdcbaaGreat
