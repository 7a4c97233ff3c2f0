/-
  DERIVED. GIVEN WITH THE SEED: THE CARDS: each row of YtmnekhlgldljcaaDoorRows.lean that lists a variable, with what it lists TIED to the program's text (the seventh form; the later family's looks); each row that meets fmt, with fmt's text TOLD by the authors' own Lean function (tested against real Go, not proved from fmt's source: count such statements apart). THE CARD IS WHAT COUNTS. Prove the row's statement (the work); the ties are given (YtmnekhlgldljcaaDoorTie.lean); close each card by the builder's one call (the guide's Derived/Test/ToyasCard.lean, 'card_holds'). Laid BY PROGRAM, IN A SANDBOX (cutbox-door.mjs). By AI agents, Wed Nov 11 2026. No macro, syntax, notation, axiom, sorry.
-/
import Derived.Test.YtmnekhlgldljcaaDoorRows
import GoSem.ClaimSeven
namespace Go.Proofs.YtmnekhlgldljcaaDoor
namespace Rows

/-- THE TIED CARD OF 'laws.FnExactMsgLine'. -/
def fnExactMsgLineCard : Claim7 := { stood := { row := fnExactMsgLineRow, standIns := [], harness := (true, "413716b298fa33b5d810eeae78cc5eeec6d580a1fa6fdabf6d78ac3d036f78f8"), looks := false }, kinds := [], alts := [], laidByText := true, laidKinds := [.data, .data, .data], laidTests := true, laidLooks := .later }
def FnExactMsgLineCardSaid : Prop := Claim7.holds Tryd.pinned (.plain (OpenSpec.ofChange fnExactMsgLineSpec)) fnExactMsgLineCard

/-- THE TIED CARD OF 'laws.FnExactCheckText'. -/
def fnExactCheckTextCard : Claim7 := { stood := { row := fnExactCheckTextRow, standIns := [], harness := (true, "413716b298fa33b5d810eeae78cc5eeec6d580a1fa6fdabf6d78ac3d036f78f8"), looks := false }, kinds := [], alts := [], laidByText := true, laidKinds := [.data, .data, .data], laidTests := true, laidLooks := .later }
def FnExactCheckTextCardSaid : Prop := Claim7.holds Tryd.pinned (.plain (OpenSpec.ofChange fnExactCheckTextSpec)) fnExactCheckTextCard

/-- THE TIED CARD OF 'laws.FnExactMsgBytes'. -/
def fnExactMsgBytesCard : Claim7 := { stood := { row := fnExactMsgBytesRow, standIns := [], harness := (true, "413716b298fa33b5d810eeae78cc5eeec6d580a1fa6fdabf6d78ac3d036f78f8"), looks := false }, kinds := [], alts := [], laidByText := true, laidKinds := [.data, .data, .data], laidTests := true, laidLooks := .later }
def FnExactMsgBytesCardSaid : Prop := Claim7.holds Tryd.pinned (.plain (OpenSpec.ofChange fnExactMsgBytesSpec)) fnExactMsgBytesCard

/-- THE TIED CARD OF 'laws.FnExactWireOf'. -/
def fnExactWireOfCard : Claim7 := { stood := { row := fnExactWireOfRow, standIns := [], harness := (true, "413716b298fa33b5d810eeae78cc5eeec6d580a1fa6fdabf6d78ac3d036f78f8"), looks := false }, kinds := [], alts := [], laidByText := true, laidKinds := [.data, .data, .data], laidTests := true, laidLooks := .later }
def FnExactWireOfCardSaid : Prop := Claim7.holds Tryd.pinned (.plain (OpenSpec.ofChange fnExactWireOfSpec)) fnExactWireOfCard

/-- THE TIED CARD OF 'laws.FnExactReadCheck'. -/
def fnExactReadCheckCard : Claim7 := { stood := { row := fnExactReadCheckRow, standIns := [], harness := (true, "413716b298fa33b5d810eeae78cc5eeec6d580a1fa6fdabf6d78ac3d036f78f8"), looks := false }, kinds := [], alts := [], laidByText := true, laidKinds := [.data, .data, .data, .data, .pinned], laidTests := true, laidLooks := .later }
def FnExactReadCheckCardSaid : Prop := Claim7.holds Tryd.pinned (.plain (OpenSpec.ofChange fnExactReadCheckSpec)) fnExactReadCheckCard

/-- THE TIED CARD OF 'laws.FnExactReadMsgBytes'. -/
def fnExactReadMsgBytesCard : Claim7 := { stood := { row := fnExactReadMsgBytesRow, standIns := [], harness := (true, "413716b298fa33b5d810eeae78cc5eeec6d580a1fa6fdabf6d78ac3d036f78f8"), looks := false }, kinds := [], alts := [], laidByText := true, laidKinds := [.data, .pinned], laidTests := true, laidLooks := .later }
def FnExactReadMsgBytesCardSaid : Prop := Claim7.holds Tryd.pinned (.plain (OpenSpec.ofChange fnExactReadMsgBytesSpec)) fnExactReadMsgBytesCard

/-- THE TIED CARD OF 'laws.FnExactReadWire'. -/
def fnExactReadWireCard : Claim7 := { stood := { row := fnExactReadWireRow, standIns := [], harness := (true, "413716b298fa33b5d810eeae78cc5eeec6d580a1fa6fdabf6d78ac3d036f78f8"), looks := false }, kinds := [], alts := [], laidByText := true, laidKinds := [.data, .pinned], laidTests := true, laidLooks := .later }
def FnExactReadWireCardSaid : Prop := Claim7.holds Tryd.pinned (.plain (OpenSpec.ofChange fnExactReadWireSpec)) fnExactReadWireCard

/-- THE TIED CARD OF 'laws.FnExactFeedReader'. -/
def fnExactFeedReaderCard : Claim7 := { stood := { row := fnExactFeedReaderRow, standIns := [], harness := (true, "413716b298fa33b5d810eeae78cc5eeec6d580a1fa6fdabf6d78ac3d036f78f8"), looks := false }, kinds := [], alts := [], laidByText := true, laidKinds := [.data, .pinned], laidTests := true, laidLooks := .later }
def FnExactFeedReaderCardSaid : Prop := Claim7.holds Tryd.pinned (.plain (OpenSpec.ofChange fnExactFeedReaderSpec)) fnExactFeedReaderCard

/-- THE SECOND FORM's CARD OF 'laws.FnExactMsgLine'. -/
def fnExactMsgLineUptoCard : Claim7 := { stood := { row := fnExactMsgLineUptoRow, standIns := [], harness := (true, "413716b298fa33b5d810eeae78cc5eeec6d580a1fa6fdabf6d78ac3d036f78f8"), looks := false }, kinds := [], alts := [], laidByText := true, laidKinds := [.data, .data, .data], laidTests := true, laidLooks := .later }
def FnExactMsgLineUptoCardSaid : Prop := Claim7.holds Tryd.pinned (.plain (OpenSpec.upto fnExactMsgLineSpec)) fnExactMsgLineUptoCard

/-- THE SECOND FORM's CARD OF 'laws.FnExactCheckText'. -/
def fnExactCheckTextUptoCard : Claim7 := { stood := { row := fnExactCheckTextUptoRow, standIns := [], harness := (true, "413716b298fa33b5d810eeae78cc5eeec6d580a1fa6fdabf6d78ac3d036f78f8"), looks := false }, kinds := [], alts := [], laidByText := true, laidKinds := [.data, .data, .data], laidTests := true, laidLooks := .later }
def FnExactCheckTextUptoCardSaid : Prop := Claim7.holds Tryd.pinned (.plain (OpenSpec.upto fnExactCheckTextSpec)) fnExactCheckTextUptoCard

/-- THE SECOND FORM's CARD OF 'laws.FnExactMsgBytes'. -/
def fnExactMsgBytesUptoCard : Claim7 := { stood := { row := fnExactMsgBytesUptoRow, standIns := [], harness := (true, "413716b298fa33b5d810eeae78cc5eeec6d580a1fa6fdabf6d78ac3d036f78f8"), looks := false }, kinds := [], alts := [], laidByText := true, laidKinds := [.data, .data, .data], laidTests := true, laidLooks := .later }
def FnExactMsgBytesUptoCardSaid : Prop := Claim7.holds Tryd.pinned (.plain (OpenSpec.upto fnExactMsgBytesSpec)) fnExactMsgBytesUptoCard

/-- THE SECOND FORM's CARD OF 'laws.FnExactWireOf'. -/
def fnExactWireOfUptoCard : Claim7 := { stood := { row := fnExactWireOfUptoRow, standIns := [], harness := (true, "413716b298fa33b5d810eeae78cc5eeec6d580a1fa6fdabf6d78ac3d036f78f8"), looks := false }, kinds := [], alts := [], laidByText := true, laidKinds := [.data, .data, .data], laidTests := true, laidLooks := .later }
def FnExactWireOfUptoCardSaid : Prop := Claim7.holds Tryd.pinned (.plain (OpenSpec.upto fnExactWireOfSpec)) fnExactWireOfUptoCard

/-- THE SECOND FORM's CARD OF 'laws.FnExactReadCheck'. -/
def fnExactReadCheckUptoCard : Claim7 := { stood := { row := fnExactReadCheckUptoRow, standIns := [], harness := (true, "413716b298fa33b5d810eeae78cc5eeec6d580a1fa6fdabf6d78ac3d036f78f8"), looks := false }, kinds := [], alts := [], laidByText := true, laidKinds := [.data, .data, .data, .data, .pinned], laidTests := true, laidLooks := .later }
def FnExactReadCheckUptoCardSaid : Prop := Claim7.holds Tryd.pinned (.plain (OpenSpec.upto fnExactReadCheckSpec)) fnExactReadCheckUptoCard

/-- THE SECOND FORM's CARD OF 'laws.FnExactReadMsgBytes'. -/
def fnExactReadMsgBytesUptoCard : Claim7 := { stood := { row := fnExactReadMsgBytesUptoRow, standIns := [], harness := (true, "413716b298fa33b5d810eeae78cc5eeec6d580a1fa6fdabf6d78ac3d036f78f8"), looks := false }, kinds := [], alts := [], laidByText := true, laidKinds := [.data, .pinned], laidTests := true, laidLooks := .later }
def FnExactReadMsgBytesUptoCardSaid : Prop := Claim7.holds Tryd.pinned (.plain (OpenSpec.upto fnExactReadMsgBytesSpec)) fnExactReadMsgBytesUptoCard

/-- THE SECOND FORM's CARD OF 'laws.FnExactReadWire'. -/
def fnExactReadWireUptoCard : Claim7 := { stood := { row := fnExactReadWireUptoRow, standIns := [], harness := (true, "413716b298fa33b5d810eeae78cc5eeec6d580a1fa6fdabf6d78ac3d036f78f8"), looks := false }, kinds := [], alts := [], laidByText := true, laidKinds := [.data, .pinned], laidTests := true, laidLooks := .later }
def FnExactReadWireUptoCardSaid : Prop := Claim7.holds Tryd.pinned (.plain (OpenSpec.upto fnExactReadWireSpec)) fnExactReadWireUptoCard

/-- THE SECOND FORM's CARD OF 'laws.FnExactFeedReader'. -/
def fnExactFeedReaderUptoCard : Claim7 := { stood := { row := fnExactFeedReaderUptoRow, standIns := [], harness := (true, "413716b298fa33b5d810eeae78cc5eeec6d580a1fa6fdabf6d78ac3d036f78f8"), looks := false }, kinds := [], alts := [], laidByText := true, laidKinds := [.data, .pinned], laidTests := true, laidLooks := .later }
def FnExactFeedReaderUptoCardSaid : Prop := Claim7.holds Tryd.pinned (.plain (OpenSpec.upto fnExactFeedReaderSpec)) fnExactFeedReaderUptoCard
end Rows
end Go.Proofs.YtmnekhlgldljcaaDoor
