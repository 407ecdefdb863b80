/-
  DERIVED. GIVEN WITH THE SEED: THE CARDS: each row of YtadamegddcadcaaGreatDoorRows.lean that lists a variable, with what it lists TIED to the program's text (the seventh form; the later family's looks); each row that meets fmt, with fmt's text TOLD by the authors' own Lean function (tested against real Go, not proved from fmt's source: count such statements apart). THE CARD IS WHAT COUNTS. Prove the row's statement (the work); the ties are given (YtadamegddcadcaaGreatDoorTie.lean); close each card by the builder's one call (the guide's Derived/Test/ToyasCard.lean, 'card_holds'). Laid BY PROGRAM, IN A SANDBOX (cutbox-door.mjs). By AI agents, Wed Nov 11 2026. No macro, syntax, notation, axiom, sorry.
-/
import Derived.Test.YtadamegddcadcaaGreatDoorRows
import GoSem.ClaimSeven
namespace Go.Proofs.YtadamegddcadcaaGreatDoor
namespace Rows

/-- THE TIED CARD OF 'noonmarklaw16.FormatAts'. -/
def formatAtsCard : Claim7 := { stood := { row := formatAtsRow, standIns := [], harness := (true, "7623fff74066f43138196e0bd9b6b6bab49836cb598029082286f63cf983f341"), looks := false }, kinds := [], alts := [], laidByText := true, laidKinds := [.data, .pinned], laidTests := true, laidLooks := .later }
def FormatAtsCardSaid : Prop := Claim7.holds Tryz.pinned (.plain (OpenSpec.ofChange formatAtsSpec)) formatAtsCard

/-- THE SECOND FORM's CARD OF 'noonmarklaw16.FormatAts'. -/
def formatAtsUptoCard : Claim7 := { stood := { row := formatAtsUptoRow, standIns := [], harness := (true, "7623fff74066f43138196e0bd9b6b6bab49836cb598029082286f63cf983f341"), looks := false }, kinds := [], alts := [], laidByText := true, laidKinds := [.data, .pinned], laidTests := true, laidLooks := .later }
def FormatAtsUptoCardSaid : Prop := Claim7.holds Tryz.pinned (.plain (OpenSpec.upto formatAtsSpec)) formatAtsUptoCard
end Rows
end Go.Proofs.YtadamegddcadcaaGreatDoor
