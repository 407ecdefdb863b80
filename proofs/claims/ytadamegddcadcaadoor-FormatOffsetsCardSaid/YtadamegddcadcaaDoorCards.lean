/-
  DERIVED. GIVEN WITH THE SEED: THE CARDS: each row of YtadamegddcadcaaDoorRows.lean that lists a variable, with what it lists TIED to the program's text (the seventh form; the later family's looks); each row that meets fmt, with fmt's text TOLD by the authors' own Lean function (tested against real Go, not proved from fmt's source: count such statements apart). THE CARD IS WHAT COUNTS. Prove the row's statement (the work); the ties are given (YtadamegddcadcaaDoorTie.lean); close each card by the builder's one call (the guide's Derived/Test/ToyasCard.lean, 'card_holds'). Laid BY PROGRAM, IN A SANDBOX (cutbox-door.mjs). By AI agents, Wed Nov 11 2026. No macro, syntax, notation, axiom, sorry.
-/
import Derived.Test.YtadamegddcadcaaDoorRows
import GoSem.ClaimSeven
namespace Go.Proofs.YtadamegddcadcaaDoor
namespace Rows

/-- THE TIED CARD OF 'noonmarklaw16.FormatDigits'. -/
def formatDigitsCard : Claim7 := { stood := { row := formatDigitsRow, standIns := [], harness := (true, "2cbce3209e0afbff3d820fefc5b1623da49790836ccf8fa63e2c9a171f193dd4"), looks := false }, kinds := [], alts := [], laidByText := true, laidKinds := [.data, .pinned], laidTests := true, laidLooks := .later }
def FormatDigitsCardSaid : Prop := Claim7.holds Tryd.pinned (.plain (OpenSpec.ofChange formatDigitsSpec)) formatDigitsCard

/-- THE TIED CARD OF 'noonmarklaw16.FormatOfs'. -/
def formatOfsCard : Claim7 := { stood := { row := formatOfsRow, standIns := [], harness := (true, "2cbce3209e0afbff3d820fefc5b1623da49790836ccf8fa63e2c9a171f193dd4"), looks := false }, kinds := [], alts := [], laidByText := true, laidKinds := [.data, .pinned], laidTests := true, laidLooks := .later }
def FormatOfsCardSaid : Prop := Claim7.holds Tryd.pinned (.plain (OpenSpec.ofChange formatOfsSpec)) formatOfsCard

/-- THE TIED CARD OF 'noonmarklaw16.FormatOffsets'. -/
def formatOffsetsCard : Claim7 := { stood := { row := formatOffsetsRow, standIns := [], harness := (true, "2cbce3209e0afbff3d820fefc5b1623da49790836ccf8fa63e2c9a171f193dd4"), looks := false }, kinds := [], alts := [], laidByText := true, laidKinds := [.data, .pinned], laidTests := true, laidLooks := .later }
def FormatOffsetsCardSaid : Prop := Claim7.holds Tryd.pinned (.plain (OpenSpec.ofChange formatOffsetsSpec)) formatOffsetsCard

/-- THE SECOND FORM's CARD OF 'noonmarklaw16.FormatDigits'. -/
def formatDigitsUptoCard : Claim7 := { stood := { row := formatDigitsUptoRow, standIns := [], harness := (true, "2cbce3209e0afbff3d820fefc5b1623da49790836ccf8fa63e2c9a171f193dd4"), looks := false }, kinds := [], alts := [], laidByText := true, laidKinds := [.data, .pinned], laidTests := true, laidLooks := .later }
def FormatDigitsUptoCardSaid : Prop := Claim7.holds Tryd.pinned (.plain (OpenSpec.upto formatDigitsSpec)) formatDigitsUptoCard

/-- THE SECOND FORM's CARD OF 'noonmarklaw16.FormatOfs'. -/
def formatOfsUptoCard : Claim7 := { stood := { row := formatOfsUptoRow, standIns := [], harness := (true, "2cbce3209e0afbff3d820fefc5b1623da49790836ccf8fa63e2c9a171f193dd4"), looks := false }, kinds := [], alts := [], laidByText := true, laidKinds := [.data, .pinned], laidTests := true, laidLooks := .later }
def FormatOfsUptoCardSaid : Prop := Claim7.holds Tryd.pinned (.plain (OpenSpec.upto formatOfsSpec)) formatOfsUptoCard

/-- THE SECOND FORM's CARD OF 'noonmarklaw16.FormatOffsets'. -/
def formatOffsetsUptoCard : Claim7 := { stood := { row := formatOffsetsUptoRow, standIns := [], harness := (true, "2cbce3209e0afbff3d820fefc5b1623da49790836ccf8fa63e2c9a171f193dd4"), looks := false }, kinds := [], alts := [], laidByText := true, laidKinds := [.data, .pinned], laidTests := true, laidLooks := .later }
def FormatOffsetsUptoCardSaid : Prop := Claim7.holds Tryd.pinned (.plain (OpenSpec.upto formatOffsetsSpec)) formatOffsetsUptoCard
end Rows
end Go.Proofs.YtadamegddcadcaaDoor
