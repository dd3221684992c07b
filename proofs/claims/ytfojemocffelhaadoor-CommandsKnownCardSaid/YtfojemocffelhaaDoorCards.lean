/-
  DERIVED. GIVEN WITH THE SEED: THE CARDS: each row of YtfojemocffelhaaDoorRows.lean that lists a variable, with what it lists TIED to the program's text (the seventh form; the later family's looks); each row that meets fmt, with fmt's text TOLD by the authors' own Lean function (tested against real Go, not proved from fmt's source: count such statements apart). THE CARD IS WHAT COUNTS. Prove the row's statement (the work); the ties are given (YtfojemocffelhaaDoorTie.lean); close each card by the builder's one call (the guide's Derived/Test/ToyasCard.lean, 'card_holds'). Laid BY PROGRAM, IN A SANDBOX (cutbox-door.mjs). By AI agents, Wed Nov 11 2026. No macro, syntax, notation, axiom, sorry.
-/
import Derived.Test.YtfojemocffelhaaDoorRows
import GoSem.ClaimSeven
namespace Go.Proofs.YtfojemocffelhaaDoor
namespace Rows

/-- THE TIED CARD OF 'plugboardlaw37.CommandsMoves'. -/
def commandsMovesCard : Claim7 := { stood := { row := commandsMovesRow, standIns := [], harness := (true, "324740f5836a5d891147f54ff605f273956e4faef4cecb4465c5661ea8663ee5"), looks := false }, kinds := [], alts := [], laidByText := true, laidKinds := [.data, .data, .data, .widerDeep], laidTests := true, laidLooks := .later }
def CommandsMovesCardSaid : Prop := Claim7.holds Tryd.pinned (.plain (OpenSpec.ofChange commandsMovesSpec)) commandsMovesCard

/-- THE TIED CARD OF 'plugboardlaw37.CommandsSense'. -/
def commandsSenseCard : Claim7 := { stood := { row := commandsSenseRow, standIns := [], harness := (true, "324740f5836a5d891147f54ff605f273956e4faef4cecb4465c5661ea8663ee5"), looks := false }, kinds := [], alts := [], laidByText := true, laidKinds := [.data, .data, .data, .widerDeep], laidTests := true, laidLooks := .later }
def CommandsSenseCardSaid : Prop := Claim7.holds Tryd.pinned (.plain (OpenSpec.ofChange commandsSenseSpec)) commandsSenseCard

/-- THE TIED CARD OF 'plugboardlaw37.CommandsBack'. -/
def commandsBackCard : Claim7 := { stood := { row := commandsBackRow, standIns := [], harness := (true, "324740f5836a5d891147f54ff605f273956e4faef4cecb4465c5661ea8663ee5"), looks := false }, kinds := [], alts := [], laidByText := true, laidKinds := [.data, .data, .data, .data, .widerDeep, .pinned], laidTests := true, laidLooks := .later }
def CommandsBackCardSaid : Prop := Claim7.holds Tryd.pinned (.plain (OpenSpec.ofChange commandsBackSpec)) commandsBackCard

/-- THE TIED CARD OF 'plugboardlaw37.CommandsDecode'. -/
def commandsDecodeCard : Claim7 := { stood := { row := commandsDecodeRow, standIns := [], harness := (true, "324740f5836a5d891147f54ff605f273956e4faef4cecb4465c5661ea8663ee5"), looks := false }, kinds := [], alts := [], laidByText := true, laidKinds := [.data, .data, .data, .data, .widerDeep, .pinned], laidTests := true, laidLooks := .later }
def CommandsDecodeCardSaid : Prop := Claim7.holds Tryd.pinned (.plain (OpenSpec.ofChange commandsDecodeSpec)) commandsDecodeCard

/-- THE TIED CARD OF 'plugboardlaw37.CommandsInquiry'. -/
def commandsInquiryCard : Claim7 := { stood := { row := commandsInquiryRow, standIns := [], harness := (true, "324740f5836a5d891147f54ff605f273956e4faef4cecb4465c5661ea8663ee5"), looks := false }, kinds := [], alts := [], laidByText := true, laidKinds := [.data, .data, .data, .data, .widerDeep, .pinned], laidTests := true, laidLooks := .later }
def CommandsInquiryCardSaid : Prop := Claim7.holds Tryd.pinned (.plain (OpenSpec.ofChange commandsInquirySpec)) commandsInquiryCard

/-- THE TIED CARD OF 'plugboardlaw37.CommandsKnown'. -/
def commandsKnownCard : Claim7 := { stood := { row := commandsKnownRow, standIns := [], harness := (true, "324740f5836a5d891147f54ff605f273956e4faef4cecb4465c5661ea8663ee5"), looks := false }, kinds := [], alts := [], laidByText := true, laidKinds := [.data, .data, .data, .data, .widerDeep, .pinned], laidTests := true, laidLooks := .later }
def CommandsKnownCardSaid : Prop := Claim7.holds Tryd.pinned (.plain (OpenSpec.ofChange commandsKnownSpec)) commandsKnownCard

/-- THE SECOND FORM's CARD OF 'plugboardlaw37.CommandsMoves'. -/
def commandsMovesUptoCard : Claim7 := { stood := { row := commandsMovesUptoRow, standIns := [], harness := (true, "324740f5836a5d891147f54ff605f273956e4faef4cecb4465c5661ea8663ee5"), looks := false }, kinds := [], alts := [], laidByText := true, laidKinds := [.data, .data, .data, .widerDeep], laidTests := true, laidLooks := .later }
def CommandsMovesUptoCardSaid : Prop := Claim7.holds Tryd.pinned (.plain (OpenSpec.upto commandsMovesSpec)) commandsMovesUptoCard

/-- THE SECOND FORM's CARD OF 'plugboardlaw37.CommandsSense'. -/
def commandsSenseUptoCard : Claim7 := { stood := { row := commandsSenseUptoRow, standIns := [], harness := (true, "324740f5836a5d891147f54ff605f273956e4faef4cecb4465c5661ea8663ee5"), looks := false }, kinds := [], alts := [], laidByText := true, laidKinds := [.data, .data, .data, .widerDeep], laidTests := true, laidLooks := .later }
def CommandsSenseUptoCardSaid : Prop := Claim7.holds Tryd.pinned (.plain (OpenSpec.upto commandsSenseSpec)) commandsSenseUptoCard

/-- THE SECOND FORM's CARD OF 'plugboardlaw37.CommandsBack'. -/
def commandsBackUptoCard : Claim7 := { stood := { row := commandsBackUptoRow, standIns := [], harness := (true, "324740f5836a5d891147f54ff605f273956e4faef4cecb4465c5661ea8663ee5"), looks := false }, kinds := [], alts := [], laidByText := true, laidKinds := [.data, .data, .data, .data, .widerDeep, .pinned], laidTests := true, laidLooks := .later }
def CommandsBackUptoCardSaid : Prop := Claim7.holds Tryd.pinned (.plain (OpenSpec.upto commandsBackSpec)) commandsBackUptoCard

/-- THE SECOND FORM's CARD OF 'plugboardlaw37.CommandsDecode'. -/
def commandsDecodeUptoCard : Claim7 := { stood := { row := commandsDecodeUptoRow, standIns := [], harness := (true, "324740f5836a5d891147f54ff605f273956e4faef4cecb4465c5661ea8663ee5"), looks := false }, kinds := [], alts := [], laidByText := true, laidKinds := [.data, .data, .data, .data, .widerDeep, .pinned], laidTests := true, laidLooks := .later }
def CommandsDecodeUptoCardSaid : Prop := Claim7.holds Tryd.pinned (.plain (OpenSpec.upto commandsDecodeSpec)) commandsDecodeUptoCard

/-- THE SECOND FORM's CARD OF 'plugboardlaw37.CommandsInquiry'. -/
def commandsInquiryUptoCard : Claim7 := { stood := { row := commandsInquiryUptoRow, standIns := [], harness := (true, "324740f5836a5d891147f54ff605f273956e4faef4cecb4465c5661ea8663ee5"), looks := false }, kinds := [], alts := [], laidByText := true, laidKinds := [.data, .data, .data, .data, .widerDeep, .pinned], laidTests := true, laidLooks := .later }
def CommandsInquiryUptoCardSaid : Prop := Claim7.holds Tryd.pinned (.plain (OpenSpec.upto commandsInquirySpec)) commandsInquiryUptoCard

/-- THE SECOND FORM's CARD OF 'plugboardlaw37.CommandsKnown'. -/
def commandsKnownUptoCard : Claim7 := { stood := { row := commandsKnownUptoRow, standIns := [], harness := (true, "324740f5836a5d891147f54ff605f273956e4faef4cecb4465c5661ea8663ee5"), looks := false }, kinds := [], alts := [], laidByText := true, laidKinds := [.data, .data, .data, .data, .widerDeep, .pinned], laidTests := true, laidLooks := .later }
def CommandsKnownUptoCardSaid : Prop := Claim7.holds Tryd.pinned (.plain (OpenSpec.upto commandsKnownSpec)) commandsKnownUptoCard
end Rows
end Go.Proofs.YtfojemocffelhaaDoor
