/-
  NARROWER THAN 'FOR EVERY INPUT', by the rows' own cells (each row's printed sentence says how): FnExactFormModel: loops · FnExactSolveAll: loops · FnExactLemmaOk: loops.
  DERIVED. THE GIVEN ROWS OF THIS SEAT. 3 by the template 'for every input the law returns true; each argument reads behind the call as it read before'; 0 by the template 'total and deterministic' (their statements: YthpjgpbcfdfmoaaGreatTotals.lean).
  GIVEN WITH THE SEED: the statements are not yours to turn. If you find one false, say at which input.
  Laid BY PROGRAM, IN A SANDBOX (cutbox-rows.mjs): the forced cells as the released guide's own fill.sh prints them over the translation 1934995c76c8489e… (all of the seat's roots in one cut). By AI agents, Wed Nov 11 2026. No macro, syntax, notation, axiom, sorry.
-/
import Derived.Test.YthpjgpbcfdfmoaaGreatChecked
import GoSem.Claim
import GoSem.ClaimJoined
import GoSem.ClaimMapViews
import Derived.JoinedTies
import Derived.KernelRfl
namespace Go.Proofs.YthpjgpbcfdfmoaaGreat
/- THE CELL 'sum', in the pinned program and in every row, IS THE sha256 OF THE DUMP (.gsa) THAT YthpjgpbcfdfmoaaGreatProg.lean LOADS. Nothing in Lean hashes anything: it is a label: what it is worth is what the hold of that sum in a sandbox is worth. -/
noncomputable def Tryz.pinned : Pinned := { name := "ythpjgpbcfdfmoaagreat", sum := "1934995c76c8489eccea48871c591eed40d65cd4b2d7e45d47b0bd64a0187952", checked := Tryz.checked }
namespace Rows
def none {H : Type} : Left H := { results := [], args := [] }

/-- 'laws.FnExactFormModel': WHATEVER THE INPUT: true; the input reads as it did. -/
def fnExactFormModelSpec : ChangeSpec := { name := "fnExactFormModel", fn := fun _ => fun
  | [d1, d2, d3] => { results := [.lit (.bool true)], args := [d1, d2, d3] }
  | _ => none }
def fnExactFormModelRow : OpenClaim := { program := "ythpjgpbcfdfmoaagreat", sum := "1934995c76c8489eccea48871c591eed40d65cd4b2d7e45d47b0bd64a0187952", func := "loop.example/compurgator/laws.FnExactFormModel", spec := "fnExactFormModel", inPlace := ["internal/abi.NoEscape", "internal/bytealg.MakeNoZero"], unfollowed := true, recurses := true, loops := true, apart := false }
def FnExactFormModelSaid : Prop := fnExactFormModelRow.holds Tryz.pinned (OpenSpec.ofChange fnExactFormModelSpec)

/-- ITS FALSE NEIGHBOUR: 'it returns false'. Refute it at one input. -/
def fnExactFormModelWrong : ChangeSpec := { name := "fnExactFormModel", fn := fun _ => fun
  | [d1, d2, d3] => { results := [.lit (.bool false)], args := [d1, d2, d3] }
  | _ => none }
def FnExactFormModelWrongFalsely : Prop := fnExactFormModelRow.holds Tryz.pinned (OpenSpec.ofChange fnExactFormModelWrong)

/-- 'laws.FnExactSolveAll': WHATEVER THE INPUT: true; the input reads as it did. -/
def fnExactSolveAllSpec : ChangeSpec := { name := "fnExactSolveAll", fn := fun _ => fun
  | [d1, d2, d3] => { results := [.lit (.bool true)], args := [d1, d2, d3] }
  | _ => none }
def fnExactSolveAllRow : OpenClaim := { program := "ythpjgpbcfdfmoaagreat", sum := "1934995c76c8489eccea48871c591eed40d65cd4b2d7e45d47b0bd64a0187952", func := "loop.example/compurgator/laws.FnExactSolveAll", spec := "fnExactSolveAll", inPlace := ["internal/abi.NoEscape", "internal/bytealg.MakeNoZero"], unfollowed := true, recurses := true, loops := true, apart := false }
def FnExactSolveAllSaid : Prop := fnExactSolveAllRow.holds Tryz.pinned (OpenSpec.ofChange fnExactSolveAllSpec)

/-- ITS FALSE NEIGHBOUR: 'it returns false'. Refute it at one input. -/
def fnExactSolveAllWrong : ChangeSpec := { name := "fnExactSolveAll", fn := fun _ => fun
  | [d1, d2, d3] => { results := [.lit (.bool false)], args := [d1, d2, d3] }
  | _ => none }
def FnExactSolveAllWrongFalsely : Prop := fnExactSolveAllRow.holds Tryz.pinned (OpenSpec.ofChange fnExactSolveAllWrong)

/-- 'laws.FnExactLemmaOk': WHATEVER THE INPUT: true; the input reads as it did. -/
def fnExactLemmaOkSpec : ChangeSpec := { name := "fnExactLemmaOk", fn := fun _ => fun
  | [d1, d2, d3] => { results := [.lit (.bool true)], args := [d1, d2, d3] }
  | _ => none }
def fnExactLemmaOkRow : OpenClaim := { program := "ythpjgpbcfdfmoaagreat", sum := "1934995c76c8489eccea48871c591eed40d65cd4b2d7e45d47b0bd64a0187952", func := "loop.example/compurgator/laws.FnExactLemmaOk", spec := "fnExactLemmaOk", inPlace := ["internal/abi.NoEscape", "internal/bytealg.MakeNoZero"], unfollowed := true, recurses := true, loops := true, apart := false }
def FnExactLemmaOkSaid : Prop := fnExactLemmaOkRow.holds Tryz.pinned (OpenSpec.ofChange fnExactLemmaOkSpec)

/-- ITS FALSE NEIGHBOUR: 'it returns false'. Refute it at one input. -/
def fnExactLemmaOkWrong : ChangeSpec := { name := "fnExactLemmaOk", fn := fun _ => fun
  | [d1, d2, d3] => { results := [.lit (.bool false)], args := [d1, d2, d3] }
  | _ => none }
def FnExactLemmaOkWrongFalsely : Prop := fnExactLemmaOkRow.holds Tryz.pinned (OpenSpec.ofChange fnExactLemmaOkWrong)

/- THE SECOND FORM. 'bulk': how many values and letters a reading holds, each counted each time it is reached (what is shared counts as often as it is met; a slice's spare places count too). A statement '..UptoSaid' is the law's where the arguments, and the package variables that the reading takes, are together of bulk at most 1048576: NARROWER than '..Said'. Prove '..Said' where nothing that the law and all that it calls make is longer than what came in: it says more and counts as full. Else prove '..UptoSaid'. A law counts once. -/
mutual
def uptoBulk {H : Type} : DataW H → Nat
  | .lit (.string bytes) => bytes.length + 1
  | .lit _ => 1
  | .nil => 1
  | .ptr d => uptoBulk d + 1
  | .slice elems spare => uptoBulkAll elems + uptoBulkAll spare + 1
  | .agg parts => uptoBulkAll parts + 1
  | .iface _ d => uptoBulk d + 1
  | .map entries => uptoBulkEntries entries + 1
  | .held _ => 1
def uptoBulkAll {H : Type} : List (DataW H) → Nat
  | [] => 0
  | d :: r => uptoBulk d + uptoBulkAll r
def uptoBulkEntries {H : Type} : List (Lit × DataW H) → Nat
  | [] => 0
  | x :: r => uptoBulkEntry x + uptoBulkEntries r
def uptoBulkEntry {H : Type} : Lit × DataW H → Nat
  | (.string bytes, d) => bytes.length + uptoBulk d + 1
  | (_, d) => uptoBulk d + 1
 end
def uptoSmall : (H : Type) → List (DataW H) → Bool := fun _ ds => decide (uptoBulkAll ds ≤ 1048576)
def OpenSpec.upto (s : _root_.Go.ChangeSpec) : _root_.Go.OpenSpec := { _root_.Go.OpenSpec.ofChange s with cond := some uptoSmall }

/-- 'laws.FnExactFormModel', WHERE WHAT IT READS IS OF BULK AT MOST 1048576: true; the input reads as it did. -/
def fnExactFormModelUptoRow : OpenClaim := { program := "ythpjgpbcfdfmoaagreat", sum := "1934995c76c8489eccea48871c591eed40d65cd4b2d7e45d47b0bd64a0187952", func := "loop.example/compurgator/laws.FnExactFormModel", spec := "fnExactFormModel", inPlace := ["internal/abi.NoEscape", "internal/bytealg.MakeNoZero"], unfollowed := true, recurses := true, loops := true, apart := false, narrowed := true }
def FnExactFormModelUptoSaid : Prop := fnExactFormModelUptoRow.holds Tryz.pinned (OpenSpec.upto fnExactFormModelSpec)

/-- 'laws.FnExactSolveAll', WHERE WHAT IT READS IS OF BULK AT MOST 1048576: true; the input reads as it did. -/
def fnExactSolveAllUptoRow : OpenClaim := { program := "ythpjgpbcfdfmoaagreat", sum := "1934995c76c8489eccea48871c591eed40d65cd4b2d7e45d47b0bd64a0187952", func := "loop.example/compurgator/laws.FnExactSolveAll", spec := "fnExactSolveAll", inPlace := ["internal/abi.NoEscape", "internal/bytealg.MakeNoZero"], unfollowed := true, recurses := true, loops := true, apart := false, narrowed := true }
def FnExactSolveAllUptoSaid : Prop := fnExactSolveAllUptoRow.holds Tryz.pinned (OpenSpec.upto fnExactSolveAllSpec)

/-- 'laws.FnExactLemmaOk', WHERE WHAT IT READS IS OF BULK AT MOST 1048576: true; the input reads as it did. -/
def fnExactLemmaOkUptoRow : OpenClaim := { program := "ythpjgpbcfdfmoaagreat", sum := "1934995c76c8489eccea48871c591eed40d65cd4b2d7e45d47b0bd64a0187952", func := "loop.example/compurgator/laws.FnExactLemmaOk", spec := "fnExactLemmaOk", inPlace := ["internal/abi.NoEscape", "internal/bytealg.MakeNoZero"], unfollowed := true, recurses := true, loops := true, apart := false, narrowed := true }
def FnExactLemmaOkUptoSaid : Prop := fnExactLemmaOkUptoRow.holds Tryz.pinned (OpenSpec.upto fnExactLemmaOkSpec)

end Rows
end Go.Proofs.YthpjgpbcfdfmoaaGreat
