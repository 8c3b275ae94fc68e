/-
  No cell of these rows narrows 'for every input' (looked for: loops, veiled, ifaces, maps, wideKeys, modest, calm, conditions, laid).
  DERIVED. THE GIVEN ROWS OF THIS SEAT. 3 by the template 'for every input the law returns true; each argument reads behind the call as it read before'; 0 by the template 'total and deterministic' (their statements: YthglmhekdbgonaaTotals.lean).
  GIVEN WITH THE SEED: the statements are not yours to turn. If you find one false, say at which input.
  Laid BY PROGRAM, IN A SANDBOX (cutbox-rows.mjs): the forced cells as the released guide's own fill.sh prints them over the translation 698bb997f67dcace… (all of the seat's roots in one cut). By AI agents, Wed Nov 11 2026. No macro, syntax, notation, axiom, sorry.
-/
import Derived.Test.YthglmhekdbgonaaChecked
import GoSem.Claim
import GoSem.ClaimJoined
import GoSem.ClaimMapViews
import Derived.JoinedTies
import Derived.KernelRfl
namespace Go.Proofs.Ythglmhekdbgonaa
/- THE CELL 'sum', in the pinned program and in every row, IS THE sha256 OF THE DUMP (.gsa) THAT YthglmhekdbgonaaProg.lean LOADS. Nothing in Lean hashes anything: it is a label: what it is worth is what the hold of that sum in a sandbox is worth. -/
noncomputable def Try.pinned : Pinned := { name := "ythglmhekdbgonaa", sum := "698bb997f67dcace9cf5057d21accb8b9ef48311a01da5aa1e53e2fe210c5149", checked := Try.checked }
namespace Rows
def none {H : Type} : Left H := { results := [], args := [] }

/-- 'laws.FnCllStays': WHATEVER THE INPUT: true; the input reads as it did. -/
def fnCllStaysSpec : ChangeSpec := { name := "fnCllStays", fn := fun _ => fun
  | [d1, d2] => { results := [.lit (.bool true)], args := [d1, d2] }
  | _ => none }
def fnCllStaysRow : OpenClaim := { program := "ythglmhekdbgonaa", sum := "698bb997f67dcace9cf5057d21accb8b9ef48311a01da5aa1e53e2fe210c5149", func := "loop.example/landmarch/laws.FnCllStays", spec := "fnCllStays", inPlace := ["slices.overlaps[loop.example/landmarch/impl.WlkWalker]"], unfollowed := true, recurses := true, apart := false }
def FnCllStaysSaid : Prop := fnCllStaysRow.holds Try.pinned (OpenSpec.ofChange fnCllStaysSpec)

/-- ITS FALSE NEIGHBOUR: 'it returns false'. Refute it at one input. -/
def fnCllStaysWrong : ChangeSpec := { name := "fnCllStays", fn := fun _ => fun
  | [d1, d2] => { results := [.lit (.bool false)], args := [d1, d2] }
  | _ => none }
def FnCllStaysWrongFalsely : Prop := fnCllStaysRow.holds Try.pinned (OpenSpec.ofChange fnCllStaysWrong)

/-- 'laws.FnCllCoins': WHATEVER THE INPUT: true; the input reads as it did. -/
def fnCllCoinsSpec : ChangeSpec := { name := "fnCllCoins", fn := fun _ => fun
  | [d1, d2] => { results := [.lit (.bool true)], args := [d1, d2] }
  | _ => none }
def fnCllCoinsRow : OpenClaim := { program := "ythglmhekdbgonaa", sum := "698bb997f67dcace9cf5057d21accb8b9ef48311a01da5aa1e53e2fe210c5149", func := "loop.example/landmarch/laws.FnCllCoins", spec := "fnCllCoins", inPlace := ["slices.overlaps[loop.example/landmarch/impl.WlkWalker]"], unfollowed := true, recurses := true, apart := false }
def FnCllCoinsSaid : Prop := fnCllCoinsRow.holds Try.pinned (OpenSpec.ofChange fnCllCoinsSpec)

/-- ITS FALSE NEIGHBOUR: 'it returns false'. Refute it at one input. -/
def fnCllCoinsWrong : ChangeSpec := { name := "fnCllCoins", fn := fun _ => fun
  | [d1, d2] => { results := [.lit (.bool false)], args := [d1, d2] }
  | _ => none }
def FnCllCoinsWrongFalsely : Prop := fnCllCoinsRow.holds Try.pinned (OpenSpec.ofChange fnCllCoinsWrong)

/-- 'laws.FnLogOnce': WHATEVER THE INPUT: true; the input reads as it did. -/
def fnLogOnceSpec : ChangeSpec := { name := "fnLogOnce", fn := fun _ => fun
  | [d] => { results := [.lit (.bool true)], args := [d] }
  | _ => none }
def fnLogOnceRow : OpenClaim := { program := "ythglmhekdbgonaa", sum := "698bb997f67dcace9cf5057d21accb8b9ef48311a01da5aa1e53e2fe210c5149", func := "loop.example/landmarch/laws.FnLogOnce", spec := "fnLogOnce", inPlace := ["slices.overlaps[loop.example/landmarch/impl.WlkWalker]"], unfollowed := true, recurses := true, apart := false }
def FnLogOnceSaid : Prop := fnLogOnceRow.holds Try.pinned (OpenSpec.ofChange fnLogOnceSpec)

/-- ITS FALSE NEIGHBOUR: 'it returns false'. Refute it at one input. -/
def fnLogOnceWrong : ChangeSpec := { name := "fnLogOnce", fn := fun _ => fun
  | [d] => { results := [.lit (.bool false)], args := [d] }
  | _ => none }
def FnLogOnceWrongFalsely : Prop := fnLogOnceRow.holds Try.pinned (OpenSpec.ofChange fnLogOnceWrong)

/- THE SECOND FORM. 'bulk': how many values and letters a reading holds, each counted each time it is reached (what is shared counts as often as it is met; a slice's spare places count too). A statement '..UptoSaid' is the law's where the arguments, and the package variables that the reading takes, are together of bulk at most 1048576: NARROWER than '..Said'. Prove '..Said' where nothing that the law and all that it calls make is longer than what came in: it says more and counts as full. Else prove '..UptoSaid'. A law counts once. -/
mutual
def uptoBulk {H : Type} : DataW H → Nat
  | .lit (.string bytes) => bytes.length + 1
  | .lit _ => 1
  | .nil => 1
  | .ptr d => uptoBulk d + 1
  | .slice elems spare => uptoBulkAll elems + uptoBulkAll spare + 1
  | .agg parts => uptoBulkAll parts + 1
  | .iface _ d => uptoBulk d + 1
  | .map entries => uptoBulkEntries entries + 1
  | .held _ => 1
def uptoBulkAll {H : Type} : List (DataW H) → Nat
  | [] => 0
  | d :: r => uptoBulk d + uptoBulkAll r
def uptoBulkEntries {H : Type} : List (Lit × DataW H) → Nat
  | [] => 0
  | x :: r => uptoBulkEntry x + uptoBulkEntries r
def uptoBulkEntry {H : Type} : Lit × DataW H → Nat
  | (.string bytes, d) => bytes.length + uptoBulk d + 1
  | (_, d) => uptoBulk d + 1
 end
def uptoSmall : (H : Type) → List (DataW H) → Bool := fun _ ds => decide (uptoBulkAll ds ≤ 1048576)
def OpenSpec.upto (s : _root_.Go.ChangeSpec) : _root_.Go.OpenSpec := { _root_.Go.OpenSpec.ofChange s with cond := some uptoSmall }

/-- 'laws.FnCllStays', WHERE WHAT IT READS IS OF BULK AT MOST 1048576: true; the input reads as it did. -/
def fnCllStaysUptoRow : OpenClaim := { program := "ythglmhekdbgonaa", sum := "698bb997f67dcace9cf5057d21accb8b9ef48311a01da5aa1e53e2fe210c5149", func := "loop.example/landmarch/laws.FnCllStays", spec := "fnCllStays", inPlace := ["slices.overlaps[loop.example/landmarch/impl.WlkWalker]"], unfollowed := true, recurses := true, apart := false, narrowed := true }
def FnCllStaysUptoSaid : Prop := fnCllStaysUptoRow.holds Try.pinned (OpenSpec.upto fnCllStaysSpec)

/-- 'laws.FnCllCoins', WHERE WHAT IT READS IS OF BULK AT MOST 1048576: true; the input reads as it did. -/
def fnCllCoinsUptoRow : OpenClaim := { program := "ythglmhekdbgonaa", sum := "698bb997f67dcace9cf5057d21accb8b9ef48311a01da5aa1e53e2fe210c5149", func := "loop.example/landmarch/laws.FnCllCoins", spec := "fnCllCoins", inPlace := ["slices.overlaps[loop.example/landmarch/impl.WlkWalker]"], unfollowed := true, recurses := true, apart := false, narrowed := true }
def FnCllCoinsUptoSaid : Prop := fnCllCoinsUptoRow.holds Try.pinned (OpenSpec.upto fnCllCoinsSpec)

/-- 'laws.FnLogOnce', WHERE WHAT IT READS IS OF BULK AT MOST 1048576: true; the input reads as it did. -/
def fnLogOnceUptoRow : OpenClaim := { program := "ythglmhekdbgonaa", sum := "698bb997f67dcace9cf5057d21accb8b9ef48311a01da5aa1e53e2fe210c5149", func := "loop.example/landmarch/laws.FnLogOnce", spec := "fnLogOnce", inPlace := ["slices.overlaps[loop.example/landmarch/impl.WlkWalker]"], unfollowed := true, recurses := true, apart := false, narrowed := true }
def FnLogOnceUptoSaid : Prop := fnLogOnceUptoRow.holds Try.pinned (OpenSpec.upto fnLogOnceSpec)

end Rows
end Go.Proofs.Ythglmhekdbgonaa
