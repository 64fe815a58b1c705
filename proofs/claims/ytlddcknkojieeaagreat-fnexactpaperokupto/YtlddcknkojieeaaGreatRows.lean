/-
  NARROWER THAN 'FOR EVERY INPUT', by the rows' own cells (each row's printed sentence says how): FnExactPaperOk: loops · FnExactFollowOk: loops.
  DERIVED. THE GIVEN ROWS OF THIS SEAT. 2 by the template 'for every input the law returns true; each argument reads behind the call as it read before'; 0 by the template 'total and deterministic' (their statements: YtlddcknkojieeaaGreatTotals.lean).
  GIVEN WITH THE SEED: the statements are not yours to turn. If you find one false, say at which input.
  Laid BY PROGRAM, IN A SANDBOX (cutbox-rows.mjs): the forced cells as the released guide's own fill.sh prints them over the translation e9b6adfcb027199d… (all of the seat's roots in one cut). By AI agents, Wed Nov 11 2026. No macro, syntax, notation, axiom, sorry.
-/
import Derived.Test.YtlddcknkojieeaaGreatChecked
import GoSem.Claim
import GoSem.ClaimJoined
import GoSem.ClaimMapViews
import Derived.JoinedTies
import Derived.KernelRfl
namespace Go.Proofs.YtlddcknkojieeaaGreat
/- THE CELL 'sum', in the pinned program and in every row, IS THE sha256 OF THE DUMP (.gsa) THAT YtlddcknkojieeaaGreatProg.lean LOADS. Nothing in Lean hashes anything: it is a label: what it is worth is what the hold of that sum in a sandbox is worth. -/
noncomputable def Tryz.pinned : Pinned := { name := "ytlddcknkojieeaagreat", sum := "e9b6adfcb027199d8477650d1b0bd75f66eb1d3a6f4de12c33b266f0dd89615a", checked := Tryz.checked }
namespace Rows
def none {H : Type} : Left H := { results := [], args := [] }

/-- 'laws.FnExactPaperOk': WHATEVER THE INPUT: true; the input reads as it did. -/
def fnExactPaperOkSpec : ChangeSpec := { name := "fnExactPaperOk", fn := fun _ => fun
  | [d1, d2, d3] => { results := [.lit (.bool true)], args := [d1, d2, d3] }
  | _ => none }
def fnExactPaperOkRow : OpenClaim := { program := "ytlddcknkojieeaagreat", sum := "e9b6adfcb027199d8477650d1b0bd75f66eb1d3a6f4de12c33b266f0dd89615a", func := "loop.example/compurgator/laws.FnExactPaperOk", spec := "fnExactPaperOk", inPlace := ["internal/abi.NoEscape", "internal/bytealg.MakeNoZero"], unfollowed := true, recurses := true, loops := true, apart := false }
def FnExactPaperOkSaid : Prop := fnExactPaperOkRow.holds Tryz.pinned (OpenSpec.ofChange fnExactPaperOkSpec)

/-- ITS FALSE NEIGHBOUR: 'it returns false'. Refute it at one input. -/
def fnExactPaperOkWrong : ChangeSpec := { name := "fnExactPaperOk", fn := fun _ => fun
  | [d1, d2, d3] => { results := [.lit (.bool false)], args := [d1, d2, d3] }
  | _ => none }
def FnExactPaperOkWrongFalsely : Prop := fnExactPaperOkRow.holds Tryz.pinned (OpenSpec.ofChange fnExactPaperOkWrong)

/-- 'laws.FnExactFollowOk': WHATEVER THE INPUT: true; the input reads as it did. -/
def fnExactFollowOkSpec : ChangeSpec := { name := "fnExactFollowOk", fn := fun _ => fun
  | [d1, d2, d3, d4] => { results := [.lit (.bool true)], args := [d1, d2, d3, d4] }
  | _ => none }
def fnExactFollowOkRow : OpenClaim := { program := "ytlddcknkojieeaagreat", sum := "e9b6adfcb027199d8477650d1b0bd75f66eb1d3a6f4de12c33b266f0dd89615a", func := "loop.example/compurgator/laws.FnExactFollowOk", spec := "fnExactFollowOk", inPlace := ["internal/abi.NoEscape", "internal/bytealg.MakeNoZero"], unfollowed := true, recurses := true, loops := true, apart := false }
def FnExactFollowOkSaid : Prop := fnExactFollowOkRow.holds Tryz.pinned (OpenSpec.ofChange fnExactFollowOkSpec)

/-- ITS FALSE NEIGHBOUR: 'it returns false'. Refute it at one input. -/
def fnExactFollowOkWrong : ChangeSpec := { name := "fnExactFollowOk", fn := fun _ => fun
  | [d1, d2, d3, d4] => { results := [.lit (.bool false)], args := [d1, d2, d3, d4] }
  | _ => none }
def FnExactFollowOkWrongFalsely : Prop := fnExactFollowOkRow.holds Tryz.pinned (OpenSpec.ofChange fnExactFollowOkWrong)

/- THE SECOND FORM. 'bulk': how many values and letters a reading holds, each counted each time it is reached (what is shared counts as often as it is met; a slice's spare places count too). A statement '..UptoSaid' is the law's where the arguments, and the package variables that the reading takes, are together of bulk at most 1048576: NARROWER than '..Said'. Prove '..Said' where nothing that the law and all that it calls make is longer than what came in: it says more and counts as full. Else prove '..UptoSaid'. A law counts once. -/
mutual
def uptoBulk {H : Type} : DataW H → Nat
  | .lit (.string bytes) => bytes.length + 1
  | .lit _ => 1
  | .nil => 1
  | .ptr d => uptoBulk d + 1
  | .slice elems spare => uptoBulkAll elems + uptoBulkAll spare + 1
  | .agg parts => uptoBulkAll parts + 1
  | .iface _ d => uptoBulk d + 1
  | .map entries => uptoBulkEntries entries + 1
  | .held _ => 1
def uptoBulkAll {H : Type} : List (DataW H) → Nat
  | [] => 0
  | d :: r => uptoBulk d + uptoBulkAll r
def uptoBulkEntries {H : Type} : List (Lit × DataW H) → Nat
  | [] => 0
  | x :: r => uptoBulkEntry x + uptoBulkEntries r
def uptoBulkEntry {H : Type} : Lit × DataW H → Nat
  | (.string bytes, d) => bytes.length + uptoBulk d + 1
  | (_, d) => uptoBulk d + 1
 end
def uptoSmall : (H : Type) → List (DataW H) → Bool := fun _ ds => decide (uptoBulkAll ds ≤ 1048576)
def OpenSpec.upto (s : _root_.Go.ChangeSpec) : _root_.Go.OpenSpec := { _root_.Go.OpenSpec.ofChange s with cond := some uptoSmall }

/-- 'laws.FnExactPaperOk', WHERE WHAT IT READS IS OF BULK AT MOST 1048576: true; the input reads as it did. -/
def fnExactPaperOkUptoRow : OpenClaim := { program := "ytlddcknkojieeaagreat", sum := "e9b6adfcb027199d8477650d1b0bd75f66eb1d3a6f4de12c33b266f0dd89615a", func := "loop.example/compurgator/laws.FnExactPaperOk", spec := "fnExactPaperOk", inPlace := ["internal/abi.NoEscape", "internal/bytealg.MakeNoZero"], unfollowed := true, recurses := true, loops := true, apart := false, narrowed := true }
def FnExactPaperOkUptoSaid : Prop := fnExactPaperOkUptoRow.holds Tryz.pinned (OpenSpec.upto fnExactPaperOkSpec)

/-- 'laws.FnExactFollowOk', WHERE WHAT IT READS IS OF BULK AT MOST 1048576: true; the input reads as it did. -/
def fnExactFollowOkUptoRow : OpenClaim := { program := "ytlddcknkojieeaagreat", sum := "e9b6adfcb027199d8477650d1b0bd75f66eb1d3a6f4de12c33b266f0dd89615a", func := "loop.example/compurgator/laws.FnExactFollowOk", spec := "fnExactFollowOk", inPlace := ["internal/abi.NoEscape", "internal/bytealg.MakeNoZero"], unfollowed := true, recurses := true, loops := true, apart := false, narrowed := true }
def FnExactFollowOkUptoSaid : Prop := fnExactFollowOkUptoRow.holds Tryz.pinned (OpenSpec.upto fnExactFollowOkSpec)

end Rows
end Go.Proofs.YtlddcknkojieeaaGreat
