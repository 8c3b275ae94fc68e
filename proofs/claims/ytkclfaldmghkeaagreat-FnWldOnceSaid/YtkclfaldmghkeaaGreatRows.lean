/-
  No cell of these rows narrows 'for every input' (looked for: loops, veiled, ifaces, maps, wideKeys, modest, calm, conditions, laid).
  DERIVED. THE GIVEN ROWS OF THIS SEAT. 5 by the template 'for every input the law returns true; each argument reads behind the call as it read before'; 0 by the template 'total and deterministic' (their statements: YtkclfaldmghkeaaGreatTotals.lean).
  GIVEN WITH THE SEED: the statements are not yours to turn. If you find one false, say at which input.
  Laid BY PROGRAM, IN A SANDBOX (cutbox-rows.mjs): the forced cells as the released guide's own fill.sh prints them over the translation 4f94d15f617429b5… (all of the seat's roots in one cut). By AI agents, Wed Nov 11 2026. No macro, syntax, notation, axiom, sorry.
-/
import Derived.Test.YtkclfaldmghkeaaGreatChecked
import GoSem.Claim
import GoSem.ClaimJoined
import GoSem.ClaimMapViews
import Derived.JoinedTies
import Derived.KernelRfl
namespace Go.Proofs.YtkclfaldmghkeaaGreat
/- THE CELL 'sum', in the pinned program and in every row, IS THE sha256 OF THE DUMP (.gsa) THAT YtkclfaldmghkeaaGreatProg.lean LOADS. Nothing in Lean hashes anything: it is a label: what it is worth is what the hold of that sum in a sandbox is worth. -/
noncomputable def Tryz.pinned : Pinned := { name := "ytkclfaldmghkeaagreat", sum := "4f94d15f617429b5d9ee49076558faed6a9266732128a215a09524bc219e1f43", checked := Tryz.checked }
namespace Rows
def none {H : Type} : Left H := { results := [], args := [] }

/-- 'laws.FnWldOrder': WHATEVER THE INPUT: true; the input reads as it did. -/
def fnWldOrderSpec : ChangeSpec := { name := "fnWldOrder", fn := fun _ => fun
  | [d] => { results := [.lit (.bool true)], args := [d] }
  | _ => none }
def fnWldOrderRow : OpenClaim := { program := "ytkclfaldmghkeaagreat", sum := "4f94d15f617429b5d9ee49076558faed6a9266732128a215a09524bc219e1f43", func := "loop.example/landmarch/laws.FnWldOrder", spec := "fnWldOrder", inPlace := ["slices.overlaps[loop.example/landmarch/impl.WlkWalker]", "slices.overlaps[loop.example/landmarch/impl.HldHolder]", "slices.overlaps[loop.example/landmarch/impl.GstGhost]"], unfollowed := true, recurses := true, apart := false }
def FnWldOrderSaid : Prop := fnWldOrderRow.holds Tryz.pinned (OpenSpec.ofChange fnWldOrderSpec)

/-- ITS FALSE NEIGHBOUR: 'it returns false'. Refute it at one input. -/
def fnWldOrderWrong : ChangeSpec := { name := "fnWldOrder", fn := fun _ => fun
  | [d] => { results := [.lit (.bool false)], args := [d] }
  | _ => none }
def FnWldOrderWrongFalsely : Prop := fnWldOrderRow.holds Tryz.pinned (OpenSpec.ofChange fnWldOrderWrong)

/-- 'laws.FnWldGhosts': WHATEVER THE INPUT: true; the input reads as it did. -/
def fnWldGhostsSpec : ChangeSpec := { name := "fnWldGhosts", fn := fun _ => fun
  | [d] => { results := [.lit (.bool true)], args := [d] }
  | _ => none }
def fnWldGhostsRow : OpenClaim := { program := "ytkclfaldmghkeaagreat", sum := "4f94d15f617429b5d9ee49076558faed6a9266732128a215a09524bc219e1f43", func := "loop.example/landmarch/laws.FnWldGhosts", spec := "fnWldGhosts", inPlace := ["slices.overlaps[loop.example/landmarch/impl.WlkWalker]", "slices.overlaps[loop.example/landmarch/impl.HldHolder]", "slices.overlaps[loop.example/landmarch/impl.GstGhost]"], unfollowed := true, recurses := true, apart := false }
def FnWldGhostsSaid : Prop := fnWldGhostsRow.holds Tryz.pinned (OpenSpec.ofChange fnWldGhostsSpec)

/-- ITS FALSE NEIGHBOUR: 'it returns false'. Refute it at one input. -/
def fnWldGhostsWrong : ChangeSpec := { name := "fnWldGhosts", fn := fun _ => fun
  | [d] => { results := [.lit (.bool false)], args := [d] }
  | _ => none }
def FnWldGhostsWrongFalsely : Prop := fnWldGhostsRow.holds Tryz.pinned (OpenSpec.ofChange fnWldGhostsWrong)

/-- 'laws.FnWldFence': WHATEVER THE INPUT: true; the input reads as it did. -/
def fnWldFenceSpec : ChangeSpec := { name := "fnWldFence", fn := fun _ => fun
  | [d] => { results := [.lit (.bool true)], args := [d] }
  | _ => none }
def fnWldFenceRow : OpenClaim := { program := "ytkclfaldmghkeaagreat", sum := "4f94d15f617429b5d9ee49076558faed6a9266732128a215a09524bc219e1f43", func := "loop.example/landmarch/laws.FnWldFence", spec := "fnWldFence", inPlace := ["slices.overlaps[loop.example/landmarch/impl.WlkWalker]", "slices.overlaps[loop.example/landmarch/impl.HldHolder]", "slices.overlaps[loop.example/landmarch/impl.GstGhost]"], unfollowed := true, recurses := true, apart := false }
def FnWldFenceSaid : Prop := fnWldFenceRow.holds Tryz.pinned (OpenSpec.ofChange fnWldFenceSpec)

/-- ITS FALSE NEIGHBOUR: 'it returns false'. Refute it at one input. -/
def fnWldFenceWrong : ChangeSpec := { name := "fnWldFence", fn := fun _ => fun
  | [d] => { results := [.lit (.bool false)], args := [d] }
  | _ => none }
def FnWldFenceWrongFalsely : Prop := fnWldFenceRow.holds Tryz.pinned (OpenSpec.ofChange fnWldFenceWrong)

/-- 'laws.FnWldOnce': WHATEVER THE INPUT: true; the input reads as it did. -/
def fnWldOnceSpec : ChangeSpec := { name := "fnWldOnce", fn := fun _ => fun
  | [d] => { results := [.lit (.bool true)], args := [d] }
  | _ => none }
def fnWldOnceRow : OpenClaim := { program := "ytkclfaldmghkeaagreat", sum := "4f94d15f617429b5d9ee49076558faed6a9266732128a215a09524bc219e1f43", func := "loop.example/landmarch/laws.FnWldOnce", spec := "fnWldOnce", inPlace := ["slices.overlaps[loop.example/landmarch/impl.WlkWalker]", "slices.overlaps[loop.example/landmarch/impl.HldHolder]", "slices.overlaps[loop.example/landmarch/impl.GstGhost]"], unfollowed := true, recurses := true, apart := false }
def FnWldOnceSaid : Prop := fnWldOnceRow.holds Tryz.pinned (OpenSpec.ofChange fnWldOnceSpec)

/-- ITS FALSE NEIGHBOUR: 'it returns false'. Refute it at one input. -/
def fnWldOnceWrong : ChangeSpec := { name := "fnWldOnce", fn := fun _ => fun
  | [d] => { results := [.lit (.bool false)], args := [d] }
  | _ => none }
def FnWldOnceWrongFalsely : Prop := fnWldOnceRow.holds Tryz.pinned (OpenSpec.ofChange fnWldOnceWrong)

/-- 'laws.FnWldStays': WHATEVER THE INPUT: true; the input reads as it did. -/
def fnWldStaysSpec : ChangeSpec := { name := "fnWldStays", fn := fun _ => fun
  | [d] => { results := [.lit (.bool true)], args := [d] }
  | _ => none }
def fnWldStaysRow : OpenClaim := { program := "ytkclfaldmghkeaagreat", sum := "4f94d15f617429b5d9ee49076558faed6a9266732128a215a09524bc219e1f43", func := "loop.example/landmarch/laws.FnWldStays", spec := "fnWldStays", inPlace := ["slices.overlaps[loop.example/landmarch/impl.WlkWalker]", "slices.overlaps[loop.example/landmarch/impl.HldHolder]", "slices.overlaps[loop.example/landmarch/impl.GstGhost]"], unfollowed := true, recurses := true, apart := false }
def FnWldStaysSaid : Prop := fnWldStaysRow.holds Tryz.pinned (OpenSpec.ofChange fnWldStaysSpec)

/-- ITS FALSE NEIGHBOUR: 'it returns false'. Refute it at one input. -/
def fnWldStaysWrong : ChangeSpec := { name := "fnWldStays", fn := fun _ => fun
  | [d] => { results := [.lit (.bool false)], args := [d] }
  | _ => none }
def FnWldStaysWrongFalsely : Prop := fnWldStaysRow.holds Tryz.pinned (OpenSpec.ofChange fnWldStaysWrong)

/- THE SECOND FORM. 'bulk': how many values and letters a reading holds, each counted each time it is reached (what is shared counts as often as it is met; a slice's spare places count too). A statement '..UptoSaid' is the law's where the arguments, and the package variables that the reading takes, are together of bulk at most 1048576: NARROWER than '..Said'. Prove '..Said' where nothing that the law and all that it calls make is longer than what came in: it says more and counts as full. Else prove '..UptoSaid'. A law counts once. -/
mutual
def uptoBulk {H : Type} : DataW H → Nat
  | .lit (.string bytes) => bytes.length + 1
  | .lit _ => 1
  | .nil => 1
  | .ptr d => uptoBulk d + 1
  | .slice elems spare => uptoBulkAll elems + uptoBulkAll spare + 1
  | .agg parts => uptoBulkAll parts + 1
  | .iface _ d => uptoBulk d + 1
  | .map entries => uptoBulkEntries entries + 1
  | .held _ => 1
def uptoBulkAll {H : Type} : List (DataW H) → Nat
  | [] => 0
  | d :: r => uptoBulk d + uptoBulkAll r
def uptoBulkEntries {H : Type} : List (Lit × DataW H) → Nat
  | [] => 0
  | x :: r => uptoBulkEntry x + uptoBulkEntries r
def uptoBulkEntry {H : Type} : Lit × DataW H → Nat
  | (.string bytes, d) => bytes.length + uptoBulk d + 1
  | (_, d) => uptoBulk d + 1
 end
def uptoSmall : (H : Type) → List (DataW H) → Bool := fun _ ds => decide (uptoBulkAll ds ≤ 1048576)
def OpenSpec.upto (s : _root_.Go.ChangeSpec) : _root_.Go.OpenSpec := { _root_.Go.OpenSpec.ofChange s with cond := some uptoSmall }

/-- 'laws.FnWldOrder', WHERE WHAT IT READS IS OF BULK AT MOST 1048576: true; the input reads as it did. -/
def fnWldOrderUptoRow : OpenClaim := { program := "ytkclfaldmghkeaagreat", sum := "4f94d15f617429b5d9ee49076558faed6a9266732128a215a09524bc219e1f43", func := "loop.example/landmarch/laws.FnWldOrder", spec := "fnWldOrder", inPlace := ["slices.overlaps[loop.example/landmarch/impl.WlkWalker]", "slices.overlaps[loop.example/landmarch/impl.HldHolder]", "slices.overlaps[loop.example/landmarch/impl.GstGhost]"], unfollowed := true, recurses := true, apart := false, narrowed := true }
def FnWldOrderUptoSaid : Prop := fnWldOrderUptoRow.holds Tryz.pinned (OpenSpec.upto fnWldOrderSpec)

/-- 'laws.FnWldGhosts', WHERE WHAT IT READS IS OF BULK AT MOST 1048576: true; the input reads as it did. -/
def fnWldGhostsUptoRow : OpenClaim := { program := "ytkclfaldmghkeaagreat", sum := "4f94d15f617429b5d9ee49076558faed6a9266732128a215a09524bc219e1f43", func := "loop.example/landmarch/laws.FnWldGhosts", spec := "fnWldGhosts", inPlace := ["slices.overlaps[loop.example/landmarch/impl.WlkWalker]", "slices.overlaps[loop.example/landmarch/impl.HldHolder]", "slices.overlaps[loop.example/landmarch/impl.GstGhost]"], unfollowed := true, recurses := true, apart := false, narrowed := true }
def FnWldGhostsUptoSaid : Prop := fnWldGhostsUptoRow.holds Tryz.pinned (OpenSpec.upto fnWldGhostsSpec)

/-- 'laws.FnWldFence', WHERE WHAT IT READS IS OF BULK AT MOST 1048576: true; the input reads as it did. -/
def fnWldFenceUptoRow : OpenClaim := { program := "ytkclfaldmghkeaagreat", sum := "4f94d15f617429b5d9ee49076558faed6a9266732128a215a09524bc219e1f43", func := "loop.example/landmarch/laws.FnWldFence", spec := "fnWldFence", inPlace := ["slices.overlaps[loop.example/landmarch/impl.WlkWalker]", "slices.overlaps[loop.example/landmarch/impl.HldHolder]", "slices.overlaps[loop.example/landmarch/impl.GstGhost]"], unfollowed := true, recurses := true, apart := false, narrowed := true }
def FnWldFenceUptoSaid : Prop := fnWldFenceUptoRow.holds Tryz.pinned (OpenSpec.upto fnWldFenceSpec)

/-- 'laws.FnWldOnce', WHERE WHAT IT READS IS OF BULK AT MOST 1048576: true; the input reads as it did. -/
def fnWldOnceUptoRow : OpenClaim := { program := "ytkclfaldmghkeaagreat", sum := "4f94d15f617429b5d9ee49076558faed6a9266732128a215a09524bc219e1f43", func := "loop.example/landmarch/laws.FnWldOnce", spec := "fnWldOnce", inPlace := ["slices.overlaps[loop.example/landmarch/impl.WlkWalker]", "slices.overlaps[loop.example/landmarch/impl.HldHolder]", "slices.overlaps[loop.example/landmarch/impl.GstGhost]"], unfollowed := true, recurses := true, apart := false, narrowed := true }
def FnWldOnceUptoSaid : Prop := fnWldOnceUptoRow.holds Tryz.pinned (OpenSpec.upto fnWldOnceSpec)

/-- 'laws.FnWldStays', WHERE WHAT IT READS IS OF BULK AT MOST 1048576: true; the input reads as it did. -/
def fnWldStaysUptoRow : OpenClaim := { program := "ytkclfaldmghkeaagreat", sum := "4f94d15f617429b5d9ee49076558faed6a9266732128a215a09524bc219e1f43", func := "loop.example/landmarch/laws.FnWldStays", spec := "fnWldStays", inPlace := ["slices.overlaps[loop.example/landmarch/impl.WlkWalker]", "slices.overlaps[loop.example/landmarch/impl.HldHolder]", "slices.overlaps[loop.example/landmarch/impl.GstGhost]"], unfollowed := true, recurses := true, apart := false, narrowed := true }
def FnWldStaysUptoSaid : Prop := fnWldStaysUptoRow.holds Tryz.pinned (OpenSpec.upto fnWldStaysSpec)

end Rows
end Go.Proofs.YtkclfaldmghkeaaGreat
