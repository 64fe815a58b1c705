/-
  No cell of these rows narrows 'for every input' (looked for: loops, veiled, ifaces, maps, wideKeys, modest, calm, conditions, laid).
  DERIVED. THE GIVEN ROWS OF THIS SEAT. 4 by the template 'for every input the law returns true; each argument reads behind the call as it read before'; 0 by the template 'total and deterministic' (their statements: YtabembjmeobhoaaGreatTotals.lean).
  GIVEN WITH THE SEED: the statements are not yours to turn. If you find one false, say at which input.
  Laid BY PROGRAM, IN A SANDBOX (cutbox-rows.mjs): the forced cells as the released guide's own fill.sh prints them over the translation 9061fa93e88a49db… (all of the seat's roots in one cut). By AI agents, Wed Nov 11 2026. No macro, syntax, notation, axiom, sorry.
-/
import Derived.Test.YtabembjmeobhoaaGreatChecked
import GoSem.Claim
import GoSem.ClaimJoined
import GoSem.ClaimMapViews
import Derived.JoinedTies
import Derived.KernelRfl
namespace Go.Proofs.YtabembjmeobhoaaGreat
/- THE CELL 'sum', in the pinned program and in every row, IS THE sha256 OF THE DUMP (.gsa) THAT YtabembjmeobhoaaGreatProg.lean LOADS. Nothing in Lean hashes anything: it is a label: what it is worth is what the hold of that sum in a sandbox is worth. -/
noncomputable def Tryz.pinned : Pinned := { name := "ytabembjmeobhoaagreat", sum := "9061fa93e88a49db539edc9154687502f36e56f2c858dbd4ff364e9156f13d1e", checked := Tryz.checked }
namespace Rows
def none {H : Type} : Left H := { results := [], args := [] }

/-- 'laws.FnBothPart': WHATEVER THE INPUT: true; the input reads as it did. -/
def fnBothPartSpec : ChangeSpec := { name := "fnBothPart", fn := fun _ => fun
  | [d1, d2] => { results := [.lit (.bool true)], args := [d1, d2] }
  | _ => none }
def fnBothPartRow : OpenClaim := { program := "ytabembjmeobhoaagreat", sum := "9061fa93e88a49db539edc9154687502f36e56f2c858dbd4ff364e9156f13d1e", func := "loop.example/compurgator/laws.FnBothPart", spec := "fnBothPart", inPlace := ["internal/abi.NoEscape", "internal/bytealg.MakeNoZero", "slices.overlaps[loop.example/compurgator/impl.Row]"], unfollowed := true, recurses := true, apart := false }
def FnBothPartSaid : Prop := fnBothPartRow.holds Tryz.pinned (OpenSpec.ofChange fnBothPartSpec)

/-- ITS FALSE NEIGHBOUR: 'it returns false'. Refute it at one input. -/
def fnBothPartWrong : ChangeSpec := { name := "fnBothPart", fn := fun _ => fun
  | [d1, d2] => { results := [.lit (.bool false)], args := [d1, d2] }
  | _ => none }
def FnBothPartWrongFalsely : Prop := fnBothPartRow.holds Tryz.pinned (OpenSpec.ofChange fnBothPartWrong)

/-- 'laws.FnBothTwice': WHATEVER THE INPUT: true; the input reads as it did. -/
def fnBothTwiceSpec : ChangeSpec := { name := "fnBothTwice", fn := fun _ => fun
  | [d] => { results := [.lit (.bool true)], args := [d] }
  | _ => none }
def fnBothTwiceRow : OpenClaim := { program := "ytabembjmeobhoaagreat", sum := "9061fa93e88a49db539edc9154687502f36e56f2c858dbd4ff364e9156f13d1e", func := "loop.example/compurgator/laws.FnBothTwice", spec := "fnBothTwice", inPlace := ["internal/abi.NoEscape", "internal/bytealg.MakeNoZero", "slices.overlaps[loop.example/compurgator/impl.Row]"], unfollowed := true, recurses := true, apart := false }
def FnBothTwiceSaid : Prop := fnBothTwiceRow.holds Tryz.pinned (OpenSpec.ofChange fnBothTwiceSpec)

/-- ITS FALSE NEIGHBOUR: 'it returns false'. Refute it at one input. -/
def fnBothTwiceWrong : ChangeSpec := { name := "fnBothTwice", fn := fun _ => fun
  | [d] => { results := [.lit (.bool false)], args := [d] }
  | _ => none }
def FnBothTwiceWrongFalsely : Prop := fnBothTwiceRow.holds Tryz.pinned (OpenSpec.ofChange fnBothTwiceWrong)

/-- 'laws.FnBothTurn': WHATEVER THE INPUT: true; the input reads as it did. -/
def fnBothTurnSpec : ChangeSpec := { name := "fnBothTurn", fn := fun _ => fun
  | [d] => { results := [.lit (.bool true)], args := [d] }
  | _ => none }
def fnBothTurnRow : OpenClaim := { program := "ytabembjmeobhoaagreat", sum := "9061fa93e88a49db539edc9154687502f36e56f2c858dbd4ff364e9156f13d1e", func := "loop.example/compurgator/laws.FnBothTurn", spec := "fnBothTurn", inPlace := ["internal/abi.NoEscape", "internal/bytealg.MakeNoZero", "slices.overlaps[loop.example/compurgator/impl.Row]"], unfollowed := true, recurses := true, apart := false }
def FnBothTurnSaid : Prop := fnBothTurnRow.holds Tryz.pinned (OpenSpec.ofChange fnBothTurnSpec)

/-- ITS FALSE NEIGHBOUR: 'it returns false'. Refute it at one input. -/
def fnBothTurnWrong : ChangeSpec := { name := "fnBothTurn", fn := fun _ => fun
  | [d] => { results := [.lit (.bool false)], args := [d] }
  | _ => none }
def FnBothTurnWrongFalsely : Prop := fnBothTurnRow.holds Tryz.pinned (OpenSpec.ofChange fnBothTurnWrong)

/-- 'laws.FnBothRun': WHATEVER THE INPUT: true; the input reads as it did. -/
def fnBothRunSpec : ChangeSpec := { name := "fnBothRun", fn := fun _ => fun
  | [d] => { results := [.lit (.bool true)], args := [d] }
  | _ => none }
def fnBothRunRow : OpenClaim := { program := "ytabembjmeobhoaagreat", sum := "9061fa93e88a49db539edc9154687502f36e56f2c858dbd4ff364e9156f13d1e", func := "loop.example/compurgator/laws.FnBothRun", spec := "fnBothRun", inPlace := ["internal/abi.NoEscape", "internal/bytealg.MakeNoZero", "slices.overlaps[loop.example/compurgator/impl.Row]"], unfollowed := true, recurses := true, apart := false }
def FnBothRunSaid : Prop := fnBothRunRow.holds Tryz.pinned (OpenSpec.ofChange fnBothRunSpec)

/-- ITS FALSE NEIGHBOUR: 'it returns false'. Refute it at one input. -/
def fnBothRunWrong : ChangeSpec := { name := "fnBothRun", fn := fun _ => fun
  | [d] => { results := [.lit (.bool false)], args := [d] }
  | _ => none }
def FnBothRunWrongFalsely : Prop := fnBothRunRow.holds Tryz.pinned (OpenSpec.ofChange fnBothRunWrong)

/- THE SECOND FORM. 'bulk': how many values and letters a reading holds, each counted each time it is reached (what is shared counts as often as it is met; a slice's spare places count too). A statement '..UptoSaid' is the law's where the arguments, and the package variables that the reading takes, are together of bulk at most 1048576: NARROWER than '..Said'. Prove '..Said' where nothing that the law and all that it calls make is longer than what came in: it says more and counts as full. Else prove '..UptoSaid'. A law counts once. -/
mutual
def uptoBulk {H : Type} : DataW H → Nat
  | .lit (.string bytes) => bytes.length + 1
  | .lit _ => 1
  | .nil => 1
  | .ptr d => uptoBulk d + 1
  | .slice elems spare => uptoBulkAll elems + uptoBulkAll spare + 1
  | .agg parts => uptoBulkAll parts + 1
  | .iface _ d => uptoBulk d + 1
  | .map entries => uptoBulkEntries entries + 1
  | .held _ => 1
def uptoBulkAll {H : Type} : List (DataW H) → Nat
  | [] => 0
  | d :: r => uptoBulk d + uptoBulkAll r
def uptoBulkEntries {H : Type} : List (Lit × DataW H) → Nat
  | [] => 0
  | x :: r => uptoBulkEntry x + uptoBulkEntries r
def uptoBulkEntry {H : Type} : Lit × DataW H → Nat
  | (.string bytes, d) => bytes.length + uptoBulk d + 1
  | (_, d) => uptoBulk d + 1
 end
def uptoSmall : (H : Type) → List (DataW H) → Bool := fun _ ds => decide (uptoBulkAll ds ≤ 1048576)
def OpenSpec.upto (s : _root_.Go.ChangeSpec) : _root_.Go.OpenSpec := { _root_.Go.OpenSpec.ofChange s with cond := some uptoSmall }

/-- 'laws.FnBothPart', WHERE WHAT IT READS IS OF BULK AT MOST 1048576: true; the input reads as it did. -/
def fnBothPartUptoRow : OpenClaim := { program := "ytabembjmeobhoaagreat", sum := "9061fa93e88a49db539edc9154687502f36e56f2c858dbd4ff364e9156f13d1e", func := "loop.example/compurgator/laws.FnBothPart", spec := "fnBothPart", inPlace := ["internal/abi.NoEscape", "internal/bytealg.MakeNoZero", "slices.overlaps[loop.example/compurgator/impl.Row]"], unfollowed := true, recurses := true, apart := false, narrowed := true }
def FnBothPartUptoSaid : Prop := fnBothPartUptoRow.holds Tryz.pinned (OpenSpec.upto fnBothPartSpec)

/-- 'laws.FnBothTwice', WHERE WHAT IT READS IS OF BULK AT MOST 1048576: true; the input reads as it did. -/
def fnBothTwiceUptoRow : OpenClaim := { program := "ytabembjmeobhoaagreat", sum := "9061fa93e88a49db539edc9154687502f36e56f2c858dbd4ff364e9156f13d1e", func := "loop.example/compurgator/laws.FnBothTwice", spec := "fnBothTwice", inPlace := ["internal/abi.NoEscape", "internal/bytealg.MakeNoZero", "slices.overlaps[loop.example/compurgator/impl.Row]"], unfollowed := true, recurses := true, apart := false, narrowed := true }
def FnBothTwiceUptoSaid : Prop := fnBothTwiceUptoRow.holds Tryz.pinned (OpenSpec.upto fnBothTwiceSpec)

/-- 'laws.FnBothTurn', WHERE WHAT IT READS IS OF BULK AT MOST 1048576: true; the input reads as it did. -/
def fnBothTurnUptoRow : OpenClaim := { program := "ytabembjmeobhoaagreat", sum := "9061fa93e88a49db539edc9154687502f36e56f2c858dbd4ff364e9156f13d1e", func := "loop.example/compurgator/laws.FnBothTurn", spec := "fnBothTurn", inPlace := ["internal/abi.NoEscape", "internal/bytealg.MakeNoZero", "slices.overlaps[loop.example/compurgator/impl.Row]"], unfollowed := true, recurses := true, apart := false, narrowed := true }
def FnBothTurnUptoSaid : Prop := fnBothTurnUptoRow.holds Tryz.pinned (OpenSpec.upto fnBothTurnSpec)

/-- 'laws.FnBothRun', WHERE WHAT IT READS IS OF BULK AT MOST 1048576: true; the input reads as it did. -/
def fnBothRunUptoRow : OpenClaim := { program := "ytabembjmeobhoaagreat", sum := "9061fa93e88a49db539edc9154687502f36e56f2c858dbd4ff364e9156f13d1e", func := "loop.example/compurgator/laws.FnBothRun", spec := "fnBothRun", inPlace := ["internal/abi.NoEscape", "internal/bytealg.MakeNoZero", "slices.overlaps[loop.example/compurgator/impl.Row]"], unfollowed := true, recurses := true, apart := false, narrowed := true }
def FnBothRunUptoSaid : Prop := fnBothRunUptoRow.holds Tryz.pinned (OpenSpec.upto fnBothRunSpec)

end Rows
end Go.Proofs.YtabembjmeobhoaaGreat
