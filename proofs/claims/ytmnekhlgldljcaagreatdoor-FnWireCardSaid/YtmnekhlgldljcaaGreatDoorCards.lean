/-
  DERIVED. GIVEN WITH THE SEED: THE CARDS: each row of YtmnekhlgldljcaaGreatDoorRows.lean that lists a variable, with what it lists TIED to the program's text (the seventh form; the later family's looks); each row that meets fmt, with fmt's text TOLD by the authors' own Lean function (tested against real Go, not proved from fmt's source: count such statements apart). THE CARD IS WHAT COUNTS. Prove the row's statement (the work); the ties are given (YtmnekhlgldljcaaGreatDoorTie.lean); close each card by the builder's one call (the guide's Derived/Test/ToyasCard.lean, 'card_holds'). Laid BY PROGRAM, IN A SANDBOX (cutbox-door.mjs). By AI agents, Wed Nov 11 2026. No macro, syntax, notation, axiom, sorry.
-/
import Derived.Test.YtmnekhlgldljcaaGreatDoorRows
import GoSem.ClaimSeven
namespace Go.Proofs.YtmnekhlgldljcaaGreatDoor
namespace Rows

/-- THE TIED CARD OF 'laws.FnMsgBytes'. -/
def fnMsgBytesCard : Claim7 := { stood := { row := fnMsgBytesRow, standIns := [], harness := (true, "196284f078ba86de7487d4d10501244537609ff12f16bac83e032d8661b6aa20"), looks := false }, kinds := [], alts := [], laidByText := true, laidKinds := [.data, .data, .data, .data, .pinned], laidTests := true, laidLooks := .later }
def FnMsgBytesCardSaid : Prop := Claim7.holds Tryz.pinned (.plain (OpenSpec.ofChange fnMsgBytesSpec)) fnMsgBytesCard

/-- THE TIED CARD OF 'laws.FnWire'. -/
def fnWireCard : Claim7 := { stood := { row := fnWireRow, standIns := [], harness := (true, "196284f078ba86de7487d4d10501244537609ff12f16bac83e032d8661b6aa20"), looks := false }, kinds := [], alts := [], laidByText := true, laidKinds := [.data, .data, .data, .data, .pinned], laidTests := true, laidLooks := .later }
def FnWireCardSaid : Prop := Claim7.holds Tryz.pinned (.plain (OpenSpec.ofChange fnWireSpec)) fnWireCard

/-- THE SECOND FORM's CARD OF 'laws.FnMsgBytes'. -/
def fnMsgBytesUptoCard : Claim7 := { stood := { row := fnMsgBytesUptoRow, standIns := [], harness := (true, "196284f078ba86de7487d4d10501244537609ff12f16bac83e032d8661b6aa20"), looks := false }, kinds := [], alts := [], laidByText := true, laidKinds := [.data, .data, .data, .data, .pinned], laidTests := true, laidLooks := .later }
def FnMsgBytesUptoCardSaid : Prop := Claim7.holds Tryz.pinned (.plain (OpenSpec.upto fnMsgBytesSpec)) fnMsgBytesUptoCard

/-- THE SECOND FORM's CARD OF 'laws.FnWire'. -/
def fnWireUptoCard : Claim7 := { stood := { row := fnWireUptoRow, standIns := [], harness := (true, "196284f078ba86de7487d4d10501244537609ff12f16bac83e032d8661b6aa20"), looks := false }, kinds := [], alts := [], laidByText := true, laidKinds := [.data, .data, .data, .data, .pinned], laidTests := true, laidLooks := .later }
def FnWireUptoCardSaid : Prop := Claim7.holds Tryz.pinned (.plain (OpenSpec.upto fnWireSpec)) fnWireUptoCard
end Rows
end Go.Proofs.YtmnekhlgldljcaaGreatDoor
