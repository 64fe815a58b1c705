/-
  No cell of these rows narrows 'for every input' (looked for: loops, veiled, ifaces, maps, wideKeys, modest, calm, conditions, laid).
  DERIVED. THE GIVEN ROWS OF THIS SEAT. 3 by the template 'for every input the law returns true; each argument reads behind the call as it read before'; 0 by the template 'total and deterministic' (their statements: YtphcpjhkeipggaaGreatTotals.lean).
  GIVEN WITH THE SEED: the statements are not yours to turn. If you find one false, say at which input.
  Laid BY PROGRAM, IN A SANDBOX (cutbox-rows.mjs): the forced cells as the released guide's own fill.sh prints them over the translation 4dd55874ad901fb1… (all of the seat's roots in one cut). By AI agents, Wed Nov 11 2026. No macro, syntax, notation, axiom, sorry.
-/
import Derived.Test.YtphcpjhkeipggaaGreatChecked
import GoSem.Claim
import GoSem.ClaimJoined
import GoSem.ClaimMapViews
import Derived.JoinedTies
import Derived.KernelRfl
namespace Go.Proofs.YtphcpjhkeipggaaGreat
/- THE CELL 'sum', in the pinned program and in every row, IS THE sha256 OF THE DUMP (.gsa) THAT YtphcpjhkeipggaaGreatProg.lean LOADS. Nothing in Lean hashes anything: it is a label: what it is worth is what the hold of that sum in a sandbox is worth. -/
noncomputable def Tryz.pinned : Pinned := { name := "ytphcpjhkeipggaagreat", sum := "4dd55874ad901fb17e8bae1bc51bb37a827db0936109e7bd36381ffed5f83529", checked := Tryz.checked }
namespace Rows
def none {H : Type} : Left H := { results := [], args := [] }

/-- 'laws.FnSolveLemma': WHATEVER THE INPUT: true; the input reads as it did. -/
def fnSolveLemmaSpec : ChangeSpec := { name := "fnSolveLemma", fn := fun _ => fun
  | [d] => { results := [.lit (.bool true)], args := [d] }
  | _ => none }
def fnSolveLemmaRow : OpenClaim := { program := "ytphcpjhkeipggaagreat", sum := "4dd55874ad901fb17e8bae1bc51bb37a827db0936109e7bd36381ffed5f83529", func := "loop.example/compurgator/laws.FnSolveLemma", spec := "fnSolveLemma", inPlace := ["internal/abi.NoEscape", "internal/bytealg.MakeNoZero", "slices.overlaps[loop.example/compurgator/impl.Row]"], unfollowed := true, recurses := true, apart := false }
def FnSolveLemmaSaid : Prop := fnSolveLemmaRow.holds Tryz.pinned (OpenSpec.ofChange fnSolveLemmaSpec)

/-- ITS FALSE NEIGHBOUR: 'it returns false'. Refute it at one input. -/
def fnSolveLemmaWrong : ChangeSpec := { name := "fnSolveLemma", fn := fun _ => fun
  | [d] => { results := [.lit (.bool false)], args := [d] }
  | _ => none }
def FnSolveLemmaWrongFalsely : Prop := fnSolveLemmaRow.holds Tryz.pinned (OpenSpec.ofChange fnSolveLemmaWrong)

/-- 'laws.FnSolveTwice': WHATEVER THE INPUT: true; the input reads as it did. -/
def fnSolveTwiceSpec : ChangeSpec := { name := "fnSolveTwice", fn := fun _ => fun
  | [d] => { results := [.lit (.bool true)], args := [d] }
  | _ => none }
def fnSolveTwiceRow : OpenClaim := { program := "ytphcpjhkeipggaagreat", sum := "4dd55874ad901fb17e8bae1bc51bb37a827db0936109e7bd36381ffed5f83529", func := "loop.example/compurgator/laws.FnSolveTwice", spec := "fnSolveTwice", inPlace := ["internal/abi.NoEscape", "internal/bytealg.MakeNoZero", "slices.overlaps[loop.example/compurgator/impl.Row]"], unfollowed := true, recurses := true, apart := false }
def FnSolveTwiceSaid : Prop := fnSolveTwiceRow.holds Tryz.pinned (OpenSpec.ofChange fnSolveTwiceSpec)

/-- ITS FALSE NEIGHBOUR: 'it returns false'. Refute it at one input. -/
def fnSolveTwiceWrong : ChangeSpec := { name := "fnSolveTwice", fn := fun _ => fun
  | [d] => { results := [.lit (.bool false)], args := [d] }
  | _ => none }
def FnSolveTwiceWrongFalsely : Prop := fnSolveTwiceRow.holds Tryz.pinned (OpenSpec.ofChange fnSolveTwiceWrong)

/-- 'laws.FnSolvePart': WHATEVER THE INPUT: true; the input reads as it did. -/
def fnSolvePartSpec : ChangeSpec := { name := "fnSolvePart", fn := fun _ => fun
  | [d1, d2] => { results := [.lit (.bool true)], args := [d1, d2] }
  | _ => none }
def fnSolvePartRow : OpenClaim := { program := "ytphcpjhkeipggaagreat", sum := "4dd55874ad901fb17e8bae1bc51bb37a827db0936109e7bd36381ffed5f83529", func := "loop.example/compurgator/laws.FnSolvePart", spec := "fnSolvePart", inPlace := ["internal/abi.NoEscape", "internal/bytealg.MakeNoZero", "slices.overlaps[loop.example/compurgator/impl.Row]"], unfollowed := true, recurses := true, apart := false }
def FnSolvePartSaid : Prop := fnSolvePartRow.holds Tryz.pinned (OpenSpec.ofChange fnSolvePartSpec)

/-- ITS FALSE NEIGHBOUR: 'it returns false'. Refute it at one input. -/
def fnSolvePartWrong : ChangeSpec := { name := "fnSolvePart", fn := fun _ => fun
  | [d1, d2] => { results := [.lit (.bool false)], args := [d1, d2] }
  | _ => none }
def FnSolvePartWrongFalsely : Prop := fnSolvePartRow.holds Tryz.pinned (OpenSpec.ofChange fnSolvePartWrong)

/- THE SECOND FORM. 'bulk': how many values and letters a reading holds, each counted each time it is reached (what is shared counts as often as it is met; a slice's spare places count too). A statement '..UptoSaid' is the law's where the arguments, and the package variables that the reading takes, are together of bulk at most 1048576: NARROWER than '..Said'. Prove '..Said' where nothing that the law and all that it calls make is longer than what came in: it says more and counts as full. Else prove '..UptoSaid'. A law counts once. -/
mutual
def uptoBulk {H : Type} : DataW H → Nat
  | .lit (.string bytes) => bytes.length + 1
  | .lit _ => 1
  | .nil => 1
  | .ptr d => uptoBulk d + 1
  | .slice elems spare => uptoBulkAll elems + uptoBulkAll spare + 1
  | .agg parts => uptoBulkAll parts + 1
  | .iface _ d => uptoBulk d + 1
  | .map entries => uptoBulkEntries entries + 1
  | .held _ => 1
def uptoBulkAll {H : Type} : List (DataW H) → Nat
  | [] => 0
  | d :: r => uptoBulk d + uptoBulkAll r
def uptoBulkEntries {H : Type} : List (Lit × DataW H) → Nat
  | [] => 0
  | x :: r => uptoBulkEntry x + uptoBulkEntries r
def uptoBulkEntry {H : Type} : Lit × DataW H → Nat
  | (.string bytes, d) => bytes.length + uptoBulk d + 1
  | (_, d) => uptoBulk d + 1
 end
def uptoSmall : (H : Type) → List (DataW H) → Bool := fun _ ds => decide (uptoBulkAll ds ≤ 1048576)
def OpenSpec.upto (s : _root_.Go.ChangeSpec) : _root_.Go.OpenSpec := { _root_.Go.OpenSpec.ofChange s with cond := some uptoSmall }

/-- 'laws.FnSolveLemma', WHERE WHAT IT READS IS OF BULK AT MOST 1048576: true; the input reads as it did. -/
def fnSolveLemmaUptoRow : OpenClaim := { program := "ytphcpjhkeipggaagreat", sum := "4dd55874ad901fb17e8bae1bc51bb37a827db0936109e7bd36381ffed5f83529", func := "loop.example/compurgator/laws.FnSolveLemma", spec := "fnSolveLemma", inPlace := ["internal/abi.NoEscape", "internal/bytealg.MakeNoZero", "slices.overlaps[loop.example/compurgator/impl.Row]"], unfollowed := true, recurses := true, apart := false, narrowed := true }
def FnSolveLemmaUptoSaid : Prop := fnSolveLemmaUptoRow.holds Tryz.pinned (OpenSpec.upto fnSolveLemmaSpec)

/-- 'laws.FnSolveTwice', WHERE WHAT IT READS IS OF BULK AT MOST 1048576: true; the input reads as it did. -/
def fnSolveTwiceUptoRow : OpenClaim := { program := "ytphcpjhkeipggaagreat", sum := "4dd55874ad901fb17e8bae1bc51bb37a827db0936109e7bd36381ffed5f83529", func := "loop.example/compurgator/laws.FnSolveTwice", spec := "fnSolveTwice", inPlace := ["internal/abi.NoEscape", "internal/bytealg.MakeNoZero", "slices.overlaps[loop.example/compurgator/impl.Row]"], unfollowed := true, recurses := true, apart := false, narrowed := true }
def FnSolveTwiceUptoSaid : Prop := fnSolveTwiceUptoRow.holds Tryz.pinned (OpenSpec.upto fnSolveTwiceSpec)

/-- 'laws.FnSolvePart', WHERE WHAT IT READS IS OF BULK AT MOST 1048576: true; the input reads as it did. -/
def fnSolvePartUptoRow : OpenClaim := { program := "ytphcpjhkeipggaagreat", sum := "4dd55874ad901fb17e8bae1bc51bb37a827db0936109e7bd36381ffed5f83529", func := "loop.example/compurgator/laws.FnSolvePart", spec := "fnSolvePart", inPlace := ["internal/abi.NoEscape", "internal/bytealg.MakeNoZero", "slices.overlaps[loop.example/compurgator/impl.Row]"], unfollowed := true, recurses := true, apart := false, narrowed := true }
def FnSolvePartUptoSaid : Prop := fnSolvePartUptoRow.holds Tryz.pinned (OpenSpec.upto fnSolvePartSpec)

end Rows
end Go.Proofs.YtphcpjhkeipggaaGreat
