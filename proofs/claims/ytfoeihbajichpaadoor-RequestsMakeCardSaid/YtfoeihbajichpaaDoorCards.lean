/-
  DERIVED. GIVEN WITH THE SEED: THE CARDS: each row of YtfoeihbajichpaaDoorRows.lean that lists a variable, with what it lists TIED to the program's text (the seventh form; the later family's looks); each row that meets fmt, with fmt's text TOLD by the authors' own Lean function (tested against real Go, not proved from fmt's source: count such statements apart). THE CARD IS WHAT COUNTS. Prove the row's statement (the work); the ties are given (YtfoeihbajichpaaDoorTie.lean); close each card by the builder's one call (the guide's Derived/Test/ToyasCard.lean, 'card_holds'). Laid BY PROGRAM, IN A SANDBOX (cutbox-door.mjs). By AI agents, Wed Nov 11 2026. No macro, syntax, notation, axiom, sorry.
-/
import Derived.Test.YtfoeihbajichpaaDoorRows
import GoSem.ClaimSeven
namespace Go.Proofs.YtfoeihbajichpaaDoor
namespace Rows

/-- THE TIED CARD OF 'plugboardlaw12.RequestsType'. -/
def requestsTypeCard : Claim7 := { stood := { row := requestsTypeRow, standIns := [], harness := (true, "a0780ab13e29acda09bcab147dda9b8da5e37ec89e8ac0058a26cce65bc0ed3c"), looks := true }, kinds := [], alts := [], laidByText := true, laidKinds := [.data, .data, .data, .data, .sentinel, .sentinel, .pinned], laidTests := true, laidLooks := .later }
def RequestsTypeCardSaid : Prop := Claim7.holds Tryd.pinned (.plain (OpenSpec.ofChange requestsTypeSpec)) requestsTypeCard

/-- THE TIED CARD OF 'plugboardlaw12.RequestsCheck'. -/
def requestsCheckCard : Claim7 := { stood := { row := requestsCheckRow, standIns := [], harness := (true, "a0780ab13e29acda09bcab147dda9b8da5e37ec89e8ac0058a26cce65bc0ed3c"), looks := true }, kinds := [], alts := [], laidByText := true, laidKinds := [.data, .data, .data, .data, .sentinel, .sentinel, .pinned], laidTests := true, laidLooks := .later }
def RequestsCheckCardSaid : Prop := Claim7.holds Tryd.pinned (.plain (OpenSpec.ofChange requestsCheckSpec)) requestsCheckCard

/-- THE TIED CARD OF 'plugboardlaw12.RequestsText'. -/
def requestsTextCard : Claim7 := { stood := { row := requestsTextRow, standIns := [], harness := (true, "a0780ab13e29acda09bcab147dda9b8da5e37ec89e8ac0058a26cce65bc0ed3c"), looks := true }, kinds := [], alts := [], laidByText := true, laidKinds := [.data, .data, .data, .data, .sentinel, .sentinel, .pinned], laidTests := true, laidLooks := .later }
def RequestsTextCardSaid : Prop := Claim7.holds Tryd.pinned (.plain (OpenSpec.ofChange requestsTextSpec)) requestsTextCard

/-- THE TIED CARD OF 'plugboardlaw12.RequestsRows'. -/
def requestsRowsCard : Claim7 := { stood := { row := requestsRowsRow, standIns := [], harness := (true, "a0780ab13e29acda09bcab147dda9b8da5e37ec89e8ac0058a26cce65bc0ed3c"), looks := true }, kinds := [], alts := [], laidByText := true, laidKinds := [.data, .data, .data, .data, .sentinel, .sentinel, .pinned], laidTests := true, laidLooks := .later }
def RequestsRowsCardSaid : Prop := Claim7.holds Tryd.pinned (.plain (OpenSpec.ofChange requestsRowsSpec)) requestsRowsCard

/-- THE TIED CARD OF 'plugboardlaw12.RequestsApart'. -/
def requestsApartCard : Claim7 := { stood := { row := requestsApartRow, standIns := [], harness := (true, "a0780ab13e29acda09bcab147dda9b8da5e37ec89e8ac0058a26cce65bc0ed3c"), looks := true }, kinds := [], alts := [], laidByText := true, laidKinds := [.data, .data, .data, .data, .sentinel, .sentinel, .pinned], laidTests := true, laidLooks := .later }
def RequestsApartCardSaid : Prop := Claim7.holds Tryd.pinned (.plain (OpenSpec.ofChange requestsApartSpec)) requestsApartCard

/-- THE TIED CARD OF 'plugboardlaw12.RequestsBack'. -/
def requestsBackCard : Claim7 := { stood := { row := requestsBackRow, standIns := [], harness := (true, "a0780ab13e29acda09bcab147dda9b8da5e37ec89e8ac0058a26cce65bc0ed3c"), looks := true }, kinds := [], alts := [], laidByText := true, laidKinds := [.data, .data, .data, .data, .sentinel, .sentinel, .pinned], laidTests := true, laidLooks := .later }
def RequestsBackCardSaid : Prop := Claim7.holds Tryd.pinned (.plain (OpenSpec.ofChange requestsBackSpec)) requestsBackCard

/-- THE TIED CARD OF 'plugboardlaw12.RequestsMake'. -/
def requestsMakeCard : Claim7 := { stood := { row := requestsMakeRow, standIns := [], harness := (true, "a0780ab13e29acda09bcab147dda9b8da5e37ec89e8ac0058a26cce65bc0ed3c"), looks := true }, kinds := [], alts := [], laidByText := true, laidKinds := [.data, .data, .data, .data, .sentinel, .sentinel, .pinned], laidTests := true, laidLooks := .later }
def RequestsMakeCardSaid : Prop := Claim7.holds Tryd.pinned (.plain (OpenSpec.ofChange requestsMakeSpec)) requestsMakeCard

/-- THE SECOND FORM's CARD OF 'plugboardlaw12.RequestsType'. -/
def requestsTypeUptoCard : Claim7 := { stood := { row := requestsTypeUptoRow, standIns := [], harness := (true, "a0780ab13e29acda09bcab147dda9b8da5e37ec89e8ac0058a26cce65bc0ed3c"), looks := true }, kinds := [], alts := [], laidByText := true, laidKinds := [.data, .data, .data, .data, .sentinel, .sentinel, .pinned], laidTests := true, laidLooks := .later }
def RequestsTypeUptoCardSaid : Prop := Claim7.holds Tryd.pinned (.plain (OpenSpec.upto requestsTypeSpec)) requestsTypeUptoCard

/-- THE SECOND FORM's CARD OF 'plugboardlaw12.RequestsCheck'. -/
def requestsCheckUptoCard : Claim7 := { stood := { row := requestsCheckUptoRow, standIns := [], harness := (true, "a0780ab13e29acda09bcab147dda9b8da5e37ec89e8ac0058a26cce65bc0ed3c"), looks := true }, kinds := [], alts := [], laidByText := true, laidKinds := [.data, .data, .data, .data, .sentinel, .sentinel, .pinned], laidTests := true, laidLooks := .later }
def RequestsCheckUptoCardSaid : Prop := Claim7.holds Tryd.pinned (.plain (OpenSpec.upto requestsCheckSpec)) requestsCheckUptoCard

/-- THE SECOND FORM's CARD OF 'plugboardlaw12.RequestsText'. -/
def requestsTextUptoCard : Claim7 := { stood := { row := requestsTextUptoRow, standIns := [], harness := (true, "a0780ab13e29acda09bcab147dda9b8da5e37ec89e8ac0058a26cce65bc0ed3c"), looks := true }, kinds := [], alts := [], laidByText := true, laidKinds := [.data, .data, .data, .data, .sentinel, .sentinel, .pinned], laidTests := true, laidLooks := .later }
def RequestsTextUptoCardSaid : Prop := Claim7.holds Tryd.pinned (.plain (OpenSpec.upto requestsTextSpec)) requestsTextUptoCard

/-- THE SECOND FORM's CARD OF 'plugboardlaw12.RequestsRows'. -/
def requestsRowsUptoCard : Claim7 := { stood := { row := requestsRowsUptoRow, standIns := [], harness := (true, "a0780ab13e29acda09bcab147dda9b8da5e37ec89e8ac0058a26cce65bc0ed3c"), looks := true }, kinds := [], alts := [], laidByText := true, laidKinds := [.data, .data, .data, .data, .sentinel, .sentinel, .pinned], laidTests := true, laidLooks := .later }
def RequestsRowsUptoCardSaid : Prop := Claim7.holds Tryd.pinned (.plain (OpenSpec.upto requestsRowsSpec)) requestsRowsUptoCard

/-- THE SECOND FORM's CARD OF 'plugboardlaw12.RequestsApart'. -/
def requestsApartUptoCard : Claim7 := { stood := { row := requestsApartUptoRow, standIns := [], harness := (true, "a0780ab13e29acda09bcab147dda9b8da5e37ec89e8ac0058a26cce65bc0ed3c"), looks := true }, kinds := [], alts := [], laidByText := true, laidKinds := [.data, .data, .data, .data, .sentinel, .sentinel, .pinned], laidTests := true, laidLooks := .later }
def RequestsApartUptoCardSaid : Prop := Claim7.holds Tryd.pinned (.plain (OpenSpec.upto requestsApartSpec)) requestsApartUptoCard

/-- THE SECOND FORM's CARD OF 'plugboardlaw12.RequestsBack'. -/
def requestsBackUptoCard : Claim7 := { stood := { row := requestsBackUptoRow, standIns := [], harness := (true, "a0780ab13e29acda09bcab147dda9b8da5e37ec89e8ac0058a26cce65bc0ed3c"), looks := true }, kinds := [], alts := [], laidByText := true, laidKinds := [.data, .data, .data, .data, .sentinel, .sentinel, .pinned], laidTests := true, laidLooks := .later }
def RequestsBackUptoCardSaid : Prop := Claim7.holds Tryd.pinned (.plain (OpenSpec.upto requestsBackSpec)) requestsBackUptoCard

/-- THE SECOND FORM's CARD OF 'plugboardlaw12.RequestsMake'. -/
def requestsMakeUptoCard : Claim7 := { stood := { row := requestsMakeUptoRow, standIns := [], harness := (true, "a0780ab13e29acda09bcab147dda9b8da5e37ec89e8ac0058a26cce65bc0ed3c"), looks := true }, kinds := [], alts := [], laidByText := true, laidKinds := [.data, .data, .data, .data, .sentinel, .sentinel, .pinned], laidTests := true, laidLooks := .later }
def RequestsMakeUptoCardSaid : Prop := Claim7.holds Tryd.pinned (.plain (OpenSpec.upto requestsMakeSpec)) requestsMakeUptoCard
end Rows
end Go.Proofs.YtfoeihbajichpaaDoor
