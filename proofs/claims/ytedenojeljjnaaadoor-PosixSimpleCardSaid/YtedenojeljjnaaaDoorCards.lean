/-
  DERIVED. GIVEN WITH THE SEED: THE CARDS: each row of YtedenojeljjnaaaDoorRows.lean that lists a variable, with what it lists TIED to the program's text (the seventh form; the later family's looks); each row that meets fmt, with fmt's text TOLD by the authors' own Lean function (tested against real Go, not proved from fmt's source: count such statements apart). THE CARD IS WHAT COUNTS. Prove the row's statement (the work); the ties are given (YtedenojeljjnaaaDoorTie.lean); close each card by the builder's one call (the guide's Derived/Test/ToyasCard.lean, 'card_holds'). Laid BY PROGRAM, IN A SANDBOX (cutbox-door.mjs). By AI agents, Wed Nov 11 2026. No macro, syntax, notation, axiom, sorry.
-/
import Derived.Test.YtedenojeljjnaaaDoorRows
import GoSem.ClaimSeven
namespace Go.Proofs.YtedenojeljjnaaaDoor
namespace Rows

/-- THE TIED CARD OF 'noonmarklaw26.PosixSimple'. -/
def posixSimpleCard : Claim7 := { stood := { row := posixSimpleRow, standIns := [], harness := (true, "ab00ff8210b2c83ade691933f43ee6b6052376d7f6451d5afaf3810e3711103c"), looks := true }, kinds := [], alts := [], laidByText := true, laidKinds := [.data, .data, .data], laidTests := true, laidLooks := .later }
def PosixSimpleCardSaid : Prop := Claim7.holds Tryd.pinned (.plain (OpenSpec.ofChange posixSimpleSpec)) posixSimpleCard

/-- THE SECOND FORM's CARD OF 'noonmarklaw26.PosixSimple'. -/
def posixSimpleUptoCard : Claim7 := { stood := { row := posixSimpleUptoRow, standIns := [], harness := (true, "ab00ff8210b2c83ade691933f43ee6b6052376d7f6451d5afaf3810e3711103c"), looks := true }, kinds := [], alts := [], laidByText := true, laidKinds := [.data, .data, .data], laidTests := true, laidLooks := .later }
def PosixSimpleUptoCardSaid : Prop := Claim7.holds Tryd.pinned (.plain (OpenSpec.upto posixSimpleSpec)) posixSimpleUptoCard
end Rows
end Go.Proofs.YtedenojeljjnaaaDoor
