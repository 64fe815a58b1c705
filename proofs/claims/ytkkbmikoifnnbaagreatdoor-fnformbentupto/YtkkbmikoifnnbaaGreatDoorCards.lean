/-
  DERIVED. GIVEN WITH THE SEED: THE CARDS: each row of YtkkbmikoifnnbaaGreatDoorRows.lean that lists a variable, with what it lists TIED to the program's text (the seventh form; the later family's looks); each row that meets fmt, with fmt's text TOLD by the authors' own Lean function (tested against real Go, not proved from fmt's source: count such statements apart). THE CARD IS WHAT COUNTS. Prove the row's statement (the work); the ties are given (YtkkbmikoifnnbaaGreatDoorTie.lean); close each card by the builder's one call (the guide's Derived/Test/ToyasCard.lean, 'card_holds'). Laid BY PROGRAM, IN A SANDBOX (cutbox-door.mjs). By AI agents, Wed Nov 11 2026. No macro, syntax, notation, axiom, sorry.
-/
import Derived.Test.YtkkbmikoifnnbaaGreatDoorRows
import GoSem.ClaimSeven
namespace Go.Proofs.YtkkbmikoifnnbaaGreatDoor
namespace Rows

/-- THE TIED CARD OF 'laws.FnFormBent'. -/
def fnFormBentCard : Claim7 := { stood := { row := fnFormBentRow, standIns := [], harness := (true, "48f5c68ccbf26f1ac0c24983b160b6d681c1badd209e863210d4865139c29878"), looks := true }, kinds := [], alts := [], laidByText := true, laidKinds := [.data, .data, .data], laidTests := true, laidLooks := .later }
def FnFormBentCardSaid : Prop := Claim7.holds Tryz.pinned (.plain (OpenSpec.ofChange fnFormBentSpec)) fnFormBentCard

/-- THE TIED CARD OF 'laws.FnExactFormRead'. -/
def fnExactFormReadCard : Claim7 := { stood := { row := fnExactFormReadRow, standIns := [], harness := (true, "48f5c68ccbf26f1ac0c24983b160b6d681c1badd209e863210d4865139c29878"), looks := true }, kinds := [], alts := [], laidByText := true, laidKinds := [.data, .data, .data, .data, .sentinel, .sentinel, .pinned], laidTests := true, laidLooks := .later }
def FnExactFormReadCardSaid : Prop := Claim7.holds Tryz.pinned (.plain (OpenSpec.ofChange fnExactFormReadSpec)) fnExactFormReadCard

/-- THE TIED CARD OF 'laws.FnFormText'. -/
def fnFormTextCard : Claim7 := { stood := { row := fnFormTextRow, standIns := [], harness := (true, "48f5c68ccbf26f1ac0c24983b160b6d681c1badd209e863210d4865139c29878"), looks := true }, kinds := [], alts := [], laidByText := true, laidKinds := [.data, .data, .data, .data, .sentinel, .sentinel, .pinned], laidTests := true, laidLooks := .later }
def FnFormTextCardSaid : Prop := Claim7.holds Tryz.pinned (.plain (OpenSpec.ofChange fnFormTextSpec)) fnFormTextCard

/-- THE SECOND FORM's CARD OF 'laws.FnFormBent'. -/
def fnFormBentUptoCard : Claim7 := { stood := { row := fnFormBentUptoRow, standIns := [], harness := (true, "48f5c68ccbf26f1ac0c24983b160b6d681c1badd209e863210d4865139c29878"), looks := true }, kinds := [], alts := [], laidByText := true, laidKinds := [.data, .data, .data], laidTests := true, laidLooks := .later }
def FnFormBentUptoCardSaid : Prop := Claim7.holds Tryz.pinned (.plain (OpenSpec.upto fnFormBentSpec)) fnFormBentUptoCard

/-- THE SECOND FORM's CARD OF 'laws.FnExactFormRead'. -/
def fnExactFormReadUptoCard : Claim7 := { stood := { row := fnExactFormReadUptoRow, standIns := [], harness := (true, "48f5c68ccbf26f1ac0c24983b160b6d681c1badd209e863210d4865139c29878"), looks := true }, kinds := [], alts := [], laidByText := true, laidKinds := [.data, .data, .data, .data, .sentinel, .sentinel, .pinned], laidTests := true, laidLooks := .later }
def FnExactFormReadUptoCardSaid : Prop := Claim7.holds Tryz.pinned (.plain (OpenSpec.upto fnExactFormReadSpec)) fnExactFormReadUptoCard

/-- THE SECOND FORM's CARD OF 'laws.FnFormText'. -/
def fnFormTextUptoCard : Claim7 := { stood := { row := fnFormTextUptoRow, standIns := [], harness := (true, "48f5c68ccbf26f1ac0c24983b160b6d681c1badd209e863210d4865139c29878"), looks := true }, kinds := [], alts := [], laidByText := true, laidKinds := [.data, .data, .data, .data, .sentinel, .sentinel, .pinned], laidTests := true, laidLooks := .later }
def FnFormTextUptoCardSaid : Prop := Claim7.holds Tryz.pinned (.plain (OpenSpec.upto fnFormTextSpec)) fnFormTextUptoCard
end Rows
end Go.Proofs.YtkkbmikoifnnbaaGreatDoor
