/-
  DERIVED. GIVEN WITH THE SEED: THE CARDS: each row of YtedenojeljjnaaaGreatDoorRows.lean that lists a variable, with what it lists TIED to the program's text (the seventh form; the later family's looks); each row that meets fmt, with fmt's text TOLD by the authors' own Lean function (tested against real Go, not proved from fmt's source: count such statements apart). THE CARD IS WHAT COUNTS. Prove the row's statement (the work); the ties are given (YtedenojeljjnaaaGreatDoorTie.lean); close each card by the builder's one call (the guide's Derived/Test/ToyasCard.lean, 'card_holds'). Laid BY PROGRAM, IN A SANDBOX (cutbox-door.mjs). By AI agents, Wed Nov 11 2026. No macro, syntax, notation, axiom, sorry.
-/
import Derived.Test.YtedenojeljjnaaaGreatDoorRows
import GoSem.ClaimSeven
namespace Go.Proofs.YtedenojeljjnaaaGreatDoor
namespace Rows

/-- THE TIED CARD OF 'noonmarklaw26.PosixSums'. -/
def posixSumsCard : Claim7 := { stood := { row := posixSumsRow, standIns := [], harness := (true, "b81ce5be8205668be896925d968979642db062a0b7c5a703e1322c2343ed29dd"), looks := true }, kinds := [], alts := [], laidByText := true, laidKinds := [.data, .data, .data], laidTests := true, laidLooks := .later }
def PosixSumsCardSaid : Prop := Claim7.holds Tryz.pinned (.plain (OpenSpec.ofChange posixSumsSpec)) posixSumsCard

/-- THE SECOND FORM's CARD OF 'noonmarklaw26.PosixSums'. -/
def posixSumsUptoCard : Claim7 := { stood := { row := posixSumsUptoRow, standIns := [], harness := (true, "b81ce5be8205668be896925d968979642db062a0b7c5a703e1322c2343ed29dd"), looks := true }, kinds := [], alts := [], laidByText := true, laidKinds := [.data, .data, .data], laidTests := true, laidLooks := .later }
def PosixSumsUptoCardSaid : Prop := Claim7.holds Tryz.pinned (.plain (OpenSpec.upto posixSumsSpec)) posixSumsUptoCard
end Rows
end Go.Proofs.YtedenojeljjnaaaGreatDoor
