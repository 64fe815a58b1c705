/-
  No cell of these rows narrows 'for every input' (looked for: loops, veiled, ifaces, maps, wideKeys, modest, calm, conditions, laid).
  DERIVED. THE GIVEN ROWS OF THIS SEAT. 4 by the template 'for every input the law returns true; each argument reads behind the call as it read before'; 0 by the template 'total and deterministic' (their statements: YtpidddienjoleaaGreatTotals.lean).
  GIVEN WITH THE SEED: the statements are not yours to turn. If you find one false, say at which input.
  Laid BY PROGRAM, IN A SANDBOX (cutbox-rows.mjs): the forced cells as the released guide's own fill.sh prints them over the translation 89903dfbad647ca1… (all of the seat's roots in one cut). By AI agents, Wed Nov 11 2026. No macro, syntax, notation, axiom, sorry.
-/
import Derived.Test.YtpidddienjoleaaGreatChecked
import GoSem.Claim
import GoSem.ClaimJoined
import GoSem.ClaimMapViews
import Derived.JoinedTies
import Derived.KernelRfl
namespace Go.Proofs.YtpidddienjoleaaGreat
/- THE CELL 'sum', in the pinned program and in every row, IS THE sha256 OF THE DUMP (.gsa) THAT YtpidddienjoleaaGreatProg.lean LOADS. Nothing in Lean hashes anything: it is a label: what it is worth is what the hold of that sum in a sandbox is worth. -/
noncomputable def Tryz.pinned : Pinned := { name := "ytpidddienjoleaagreat", sum := "89903dfbad647ca10a531f30ac5cde03e3205aef5d531ec4498a5eaf2c308ec0", checked := Tryz.checked }
namespace Rows
def none {H : Type} : Left H := { results := [], args := [] }

/-- 'laws.FnBothNot': WHATEVER THE INPUT: true; the input reads as it did. -/
def fnBothNotSpec : ChangeSpec := { name := "fnBothNot", fn := fun _ => fun
  | [d] => { results := [.lit (.bool true)], args := [d] }
  | _ => none }
def fnBothNotRow : OpenClaim := { program := "ytpidddienjoleaagreat", sum := "89903dfbad647ca10a531f30ac5cde03e3205aef5d531ec4498a5eaf2c308ec0", func := "loop.example/compurgator/laws.FnBothNot", spec := "fnBothNot", inPlace := ["internal/abi.NoEscape", "internal/bytealg.MakeNoZero", "slices.overlaps[loop.example/compurgator/impl.Row]"], unfollowed := true, recurses := true, apart := false }
def FnBothNotSaid : Prop := fnBothNotRow.holds Tryz.pinned (OpenSpec.ofChange fnBothNotSpec)

/-- ITS FALSE NEIGHBOUR: 'it returns false'. Refute it at one input. -/
def fnBothNotWrong : ChangeSpec := { name := "fnBothNot", fn := fun _ => fun
  | [d] => { results := [.lit (.bool false)], args := [d] }
  | _ => none }
def FnBothNotWrongFalsely : Prop := fnBothNotRow.holds Tryz.pinned (OpenSpec.ofChange fnBothNotWrong)

/-- 'laws.FnBothEqs': WHATEVER THE INPUT: true; the input reads as it did. -/
def fnBothEqsSpec : ChangeSpec := { name := "fnBothEqs", fn := fun _ => fun
  | [d] => { results := [.lit (.bool true)], args := [d] }
  | _ => none }
def fnBothEqsRow : OpenClaim := { program := "ytpidddienjoleaagreat", sum := "89903dfbad647ca10a531f30ac5cde03e3205aef5d531ec4498a5eaf2c308ec0", func := "loop.example/compurgator/laws.FnBothEqs", spec := "fnBothEqs", inPlace := ["internal/abi.NoEscape", "internal/bytealg.MakeNoZero", "slices.overlaps[loop.example/compurgator/impl.Row]"], unfollowed := true, recurses := true, apart := false }
def FnBothEqsSaid : Prop := fnBothEqsRow.holds Tryz.pinned (OpenSpec.ofChange fnBothEqsSpec)

/-- ITS FALSE NEIGHBOUR: 'it returns false'. Refute it at one input. -/
def fnBothEqsWrong : ChangeSpec := { name := "fnBothEqs", fn := fun _ => fun
  | [d] => { results := [.lit (.bool false)], args := [d] }
  | _ => none }
def FnBothEqsWrongFalsely : Prop := fnBothEqsRow.holds Tryz.pinned (OpenSpec.ofChange fnBothEqsWrong)

/-- 'laws.FnBothLins': WHATEVER THE INPUT: true; the input reads as it did. -/
def fnBothLinsSpec : ChangeSpec := { name := "fnBothLins", fn := fun _ => fun
  | [d] => { results := [.lit (.bool true)], args := [d] }
  | _ => none }
def fnBothLinsRow : OpenClaim := { program := "ytpidddienjoleaagreat", sum := "89903dfbad647ca10a531f30ac5cde03e3205aef5d531ec4498a5eaf2c308ec0", func := "loop.example/compurgator/laws.FnBothLins", spec := "fnBothLins", inPlace := ["internal/abi.NoEscape", "internal/bytealg.MakeNoZero", "slices.overlaps[loop.example/compurgator/impl.Row]"], unfollowed := true, recurses := true, apart := false }
def FnBothLinsSaid : Prop := fnBothLinsRow.holds Tryz.pinned (OpenSpec.ofChange fnBothLinsSpec)

/-- ITS FALSE NEIGHBOUR: 'it returns false'. Refute it at one input. -/
def fnBothLinsWrong : ChangeSpec := { name := "fnBothLins", fn := fun _ => fun
  | [d] => { results := [.lit (.bool false)], args := [d] }
  | _ => none }
def FnBothLinsWrongFalsely : Prop := fnBothLinsRow.holds Tryz.pinned (OpenSpec.ofChange fnBothLinsWrong)

/-- 'laws.FnStackNew': WHATEVER THE INPUT: true; the input reads as it did. -/
def fnStackNewSpec : ChangeSpec := { name := "fnStackNew", fn := fun _ => fun
  | [d] => { results := [.lit (.bool true)], args := [d] }
  | _ => none }
def fnStackNewRow : OpenClaim := { program := "ytpidddienjoleaagreat", sum := "89903dfbad647ca10a531f30ac5cde03e3205aef5d531ec4498a5eaf2c308ec0", func := "loop.example/compurgator/laws.FnStackNew", spec := "fnStackNew", inPlace := ["internal/abi.NoEscape", "internal/bytealg.MakeNoZero", "slices.overlaps[loop.example/compurgator/impl.Row]"], unfollowed := true, recurses := true, apart := false }
def FnStackNewSaid : Prop := fnStackNewRow.holds Tryz.pinned (OpenSpec.ofChange fnStackNewSpec)

/-- ITS FALSE NEIGHBOUR: 'it returns false'. Refute it at one input. -/
def fnStackNewWrong : ChangeSpec := { name := "fnStackNew", fn := fun _ => fun
  | [d] => { results := [.lit (.bool false)], args := [d] }
  | _ => none }
def FnStackNewWrongFalsely : Prop := fnStackNewRow.holds Tryz.pinned (OpenSpec.ofChange fnStackNewWrong)

/- THE SECOND FORM. 'bulk': how many values and letters a reading holds, each counted each time it is reached (what is shared counts as often as it is met; a slice's spare places count too). A statement '..UptoSaid' is the law's where the arguments, and the package variables that the reading takes, are together of bulk at most 1048576: NARROWER than '..Said'. Prove '..Said' where nothing that the law and all that it calls make is longer than what came in: it says more and counts as full. Else prove '..UptoSaid'. A law counts once. -/
mutual
def uptoBulk {H : Type} : DataW H → Nat
  | .lit (.string bytes) => bytes.length + 1
  | .lit _ => 1
  | .nil => 1
  | .ptr d => uptoBulk d + 1
  | .slice elems spare => uptoBulkAll elems + uptoBulkAll spare + 1
  | .agg parts => uptoBulkAll parts + 1
  | .iface _ d => uptoBulk d + 1
  | .map entries => uptoBulkEntries entries + 1
  | .held _ => 1
def uptoBulkAll {H : Type} : List (DataW H) → Nat
  | [] => 0
  | d :: r => uptoBulk d + uptoBulkAll r
def uptoBulkEntries {H : Type} : List (Lit × DataW H) → Nat
  | [] => 0
  | x :: r => uptoBulkEntry x + uptoBulkEntries r
def uptoBulkEntry {H : Type} : Lit × DataW H → Nat
  | (.string bytes, d) => bytes.length + uptoBulk d + 1
  | (_, d) => uptoBulk d + 1
 end
def uptoSmall : (H : Type) → List (DataW H) → Bool := fun _ ds => decide (uptoBulkAll ds ≤ 1048576)
def OpenSpec.upto (s : _root_.Go.ChangeSpec) : _root_.Go.OpenSpec := { _root_.Go.OpenSpec.ofChange s with cond := some uptoSmall }

/-- 'laws.FnBothNot', WHERE WHAT IT READS IS OF BULK AT MOST 1048576: true; the input reads as it did. -/
def fnBothNotUptoRow : OpenClaim := { program := "ytpidddienjoleaagreat", sum := "89903dfbad647ca10a531f30ac5cde03e3205aef5d531ec4498a5eaf2c308ec0", func := "loop.example/compurgator/laws.FnBothNot", spec := "fnBothNot", inPlace := ["internal/abi.NoEscape", "internal/bytealg.MakeNoZero", "slices.overlaps[loop.example/compurgator/impl.Row]"], unfollowed := true, recurses := true, apart := false, narrowed := true }
def FnBothNotUptoSaid : Prop := fnBothNotUptoRow.holds Tryz.pinned (OpenSpec.upto fnBothNotSpec)

/-- 'laws.FnBothEqs', WHERE WHAT IT READS IS OF BULK AT MOST 1048576: true; the input reads as it did. -/
def fnBothEqsUptoRow : OpenClaim := { program := "ytpidddienjoleaagreat", sum := "89903dfbad647ca10a531f30ac5cde03e3205aef5d531ec4498a5eaf2c308ec0", func := "loop.example/compurgator/laws.FnBothEqs", spec := "fnBothEqs", inPlace := ["internal/abi.NoEscape", "internal/bytealg.MakeNoZero", "slices.overlaps[loop.example/compurgator/impl.Row]"], unfollowed := true, recurses := true, apart := false, narrowed := true }
def FnBothEqsUptoSaid : Prop := fnBothEqsUptoRow.holds Tryz.pinned (OpenSpec.upto fnBothEqsSpec)

/-- 'laws.FnBothLins', WHERE WHAT IT READS IS OF BULK AT MOST 1048576: true; the input reads as it did. -/
def fnBothLinsUptoRow : OpenClaim := { program := "ytpidddienjoleaagreat", sum := "89903dfbad647ca10a531f30ac5cde03e3205aef5d531ec4498a5eaf2c308ec0", func := "loop.example/compurgator/laws.FnBothLins", spec := "fnBothLins", inPlace := ["internal/abi.NoEscape", "internal/bytealg.MakeNoZero", "slices.overlaps[loop.example/compurgator/impl.Row]"], unfollowed := true, recurses := true, apart := false, narrowed := true }
def FnBothLinsUptoSaid : Prop := fnBothLinsUptoRow.holds Tryz.pinned (OpenSpec.upto fnBothLinsSpec)

/-- 'laws.FnStackNew', WHERE WHAT IT READS IS OF BULK AT MOST 1048576: true; the input reads as it did. -/
def fnStackNewUptoRow : OpenClaim := { program := "ytpidddienjoleaagreat", sum := "89903dfbad647ca10a531f30ac5cde03e3205aef5d531ec4498a5eaf2c308ec0", func := "loop.example/compurgator/laws.FnStackNew", spec := "fnStackNew", inPlace := ["internal/abi.NoEscape", "internal/bytealg.MakeNoZero", "slices.overlaps[loop.example/compurgator/impl.Row]"], unfollowed := true, recurses := true, apart := false, narrowed := true }
def FnStackNewUptoSaid : Prop := fnStackNewUptoRow.holds Tryz.pinned (OpenSpec.upto fnStackNewSpec)

end Rows
end Go.Proofs.YtpidddienjoleaaGreat
