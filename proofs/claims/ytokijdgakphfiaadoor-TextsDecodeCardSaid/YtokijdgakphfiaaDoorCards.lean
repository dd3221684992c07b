/-
  DERIVED. GIVEN WITH THE SEED: THE CARDS: each row of YtokijdgakphfiaaDoorRows.lean that lists a variable, with what it lists TIED to the program's text (the seventh form; the later family's looks); each row that meets fmt, with fmt's text TOLD by the authors' own Lean function (tested against real Go, not proved from fmt's source: count such statements apart). THE CARD IS WHAT COUNTS. Prove the row's statement (the work); the ties are given (YtokijdgakphfiaaDoorTie.lean); close each card by the builder's one call (the guide's Derived/Test/ToyasCard.lean, 'card_holds'). Laid BY PROGRAM, IN A SANDBOX (cutbox-door.mjs). By AI agents, Wed Nov 11 2026. No macro, syntax, notation, axiom, sorry.
-/
import Derived.Test.YtokijdgakphfiaaDoorRows
import GoSem.ClaimSeven
namespace Go.Proofs.YtokijdgakphfiaaDoor
namespace Rows

/-- THE TIED CARD OF 'plugboardlaw14.TextsBack'. -/
def textsBackCard : Claim7 := { stood := { row := textsBackRow, standIns := [], harness := (true, "ea16269a0d3c424dec50f8be9540deb0d4357d42a44ad8276bd7fdd97f873771"), looks := false }, kinds := [], alts := [], laidByText := true, laidKinds := [.data, .pinned], laidTests := true, laidLooks := .later }
def TextsBackCardSaid : Prop := Claim7.holds Tryd.pinned (.plain (OpenSpec.ofChange textsBackSpec)) textsBackCard

/-- THE TIED CARD OF 'plugboardlaw14.TextsBytes'. -/
def textsBytesCard : Claim7 := { stood := { row := textsBytesRow, standIns := [], harness := (true, "ea16269a0d3c424dec50f8be9540deb0d4357d42a44ad8276bd7fdd97f873771"), looks := false }, kinds := [], alts := [], laidByText := true, laidKinds := [.data, .pinned], laidTests := true, laidLooks := .later }
def TextsBytesCardSaid : Prop := Claim7.holds Tryd.pinned (.plain (OpenSpec.ofChange textsBytesSpec)) textsBytesCard

/-- THE TIED CARD OF 'plugboardlaw14.TextsDecode'. -/
def textsDecodeCard : Claim7 := { stood := { row := textsDecodeRow, standIns := [], harness := (true, "ea16269a0d3c424dec50f8be9540deb0d4357d42a44ad8276bd7fdd97f873771"), looks := false }, kinds := [], alts := [], laidByText := true, laidKinds := [.data, .pinned], laidTests := true, laidLooks := .later }
def TextsDecodeCardSaid : Prop := Claim7.holds Tryd.pinned (.plain (OpenSpec.ofChange textsDecodeSpec)) textsDecodeCard

/-- THE TIED CARD OF 'plugboardlaw14.TextsCut'. -/
def textsCutCard : Claim7 := { stood := { row := textsCutRow, standIns := [], harness := (true, "ea16269a0d3c424dec50f8be9540deb0d4357d42a44ad8276bd7fdd97f873771"), looks := false }, kinds := [], alts := [], laidByText := true, laidKinds := [.data, .pinned], laidTests := true, laidLooks := .later }
def TextsCutCardSaid : Prop := Claim7.holds Tryd.pinned (.plain (OpenSpec.ofChange textsCutSpec)) textsCutCard

/-- THE TIED CARD OF 'plugboardlaw14.TextsTogether'. -/
def textsTogetherCard : Claim7 := { stood := { row := textsTogetherRow, standIns := [], harness := (true, "ea16269a0d3c424dec50f8be9540deb0d4357d42a44ad8276bd7fdd97f873771"), looks := false }, kinds := [], alts := [], laidByText := true, laidKinds := [.data, .pinned], laidTests := true, laidLooks := .later }
def TextsTogetherCardSaid : Prop := Claim7.holds Tryd.pinned (.plain (OpenSpec.ofChange textsTogetherSpec)) textsTogetherCard

/-- THE TIED CARD OF 'plugboardlaw14.TextsAnswer'. -/
def textsAnswerCard : Claim7 := { stood := { row := textsAnswerRow, standIns := [], harness := (true, "ea16269a0d3c424dec50f8be9540deb0d4357d42a44ad8276bd7fdd97f873771"), looks := false }, kinds := [], alts := [], laidByText := true, laidKinds := [.data, .pinned], laidTests := true, laidLooks := .later }
def TextsAnswerCardSaid : Prop := Claim7.holds Tryd.pinned (.plain (OpenSpec.ofChange textsAnswerSpec)) textsAnswerCard

/-- THE TIED CARD OF 'plugboardlaw14.TextsLanguages'. -/
def textsLanguagesCard : Claim7 := { stood := { row := textsLanguagesRow, standIns := [], harness := (true, "ea16269a0d3c424dec50f8be9540deb0d4357d42a44ad8276bd7fdd97f873771"), looks := false }, kinds := [], alts := [], laidByText := true, laidKinds := [.data, .pinned], laidTests := true, laidLooks := .later }
def TextsLanguagesCardSaid : Prop := Claim7.holds Tryd.pinned (.plain (OpenSpec.ofChange textsLanguagesSpec)) textsLanguagesCard

/-- THE SECOND FORM's CARD OF 'plugboardlaw14.TextsBack'. -/
def textsBackUptoCard : Claim7 := { stood := { row := textsBackUptoRow, standIns := [], harness := (true, "ea16269a0d3c424dec50f8be9540deb0d4357d42a44ad8276bd7fdd97f873771"), looks := false }, kinds := [], alts := [], laidByText := true, laidKinds := [.data, .pinned], laidTests := true, laidLooks := .later }
def TextsBackUptoCardSaid : Prop := Claim7.holds Tryd.pinned (.plain (OpenSpec.upto textsBackSpec)) textsBackUptoCard

/-- THE SECOND FORM's CARD OF 'plugboardlaw14.TextsBytes'. -/
def textsBytesUptoCard : Claim7 := { stood := { row := textsBytesUptoRow, standIns := [], harness := (true, "ea16269a0d3c424dec50f8be9540deb0d4357d42a44ad8276bd7fdd97f873771"), looks := false }, kinds := [], alts := [], laidByText := true, laidKinds := [.data, .pinned], laidTests := true, laidLooks := .later }
def TextsBytesUptoCardSaid : Prop := Claim7.holds Tryd.pinned (.plain (OpenSpec.upto textsBytesSpec)) textsBytesUptoCard

/-- THE SECOND FORM's CARD OF 'plugboardlaw14.TextsDecode'. -/
def textsDecodeUptoCard : Claim7 := { stood := { row := textsDecodeUptoRow, standIns := [], harness := (true, "ea16269a0d3c424dec50f8be9540deb0d4357d42a44ad8276bd7fdd97f873771"), looks := false }, kinds := [], alts := [], laidByText := true, laidKinds := [.data, .pinned], laidTests := true, laidLooks := .later }
def TextsDecodeUptoCardSaid : Prop := Claim7.holds Tryd.pinned (.plain (OpenSpec.upto textsDecodeSpec)) textsDecodeUptoCard

/-- THE SECOND FORM's CARD OF 'plugboardlaw14.TextsCut'. -/
def textsCutUptoCard : Claim7 := { stood := { row := textsCutUptoRow, standIns := [], harness := (true, "ea16269a0d3c424dec50f8be9540deb0d4357d42a44ad8276bd7fdd97f873771"), looks := false }, kinds := [], alts := [], laidByText := true, laidKinds := [.data, .pinned], laidTests := true, laidLooks := .later }
def TextsCutUptoCardSaid : Prop := Claim7.holds Tryd.pinned (.plain (OpenSpec.upto textsCutSpec)) textsCutUptoCard

/-- THE SECOND FORM's CARD OF 'plugboardlaw14.TextsTogether'. -/
def textsTogetherUptoCard : Claim7 := { stood := { row := textsTogetherUptoRow, standIns := [], harness := (true, "ea16269a0d3c424dec50f8be9540deb0d4357d42a44ad8276bd7fdd97f873771"), looks := false }, kinds := [], alts := [], laidByText := true, laidKinds := [.data, .pinned], laidTests := true, laidLooks := .later }
def TextsTogetherUptoCardSaid : Prop := Claim7.holds Tryd.pinned (.plain (OpenSpec.upto textsTogetherSpec)) textsTogetherUptoCard

/-- THE SECOND FORM's CARD OF 'plugboardlaw14.TextsAnswer'. -/
def textsAnswerUptoCard : Claim7 := { stood := { row := textsAnswerUptoRow, standIns := [], harness := (true, "ea16269a0d3c424dec50f8be9540deb0d4357d42a44ad8276bd7fdd97f873771"), looks := false }, kinds := [], alts := [], laidByText := true, laidKinds := [.data, .pinned], laidTests := true, laidLooks := .later }
def TextsAnswerUptoCardSaid : Prop := Claim7.holds Tryd.pinned (.plain (OpenSpec.upto textsAnswerSpec)) textsAnswerUptoCard

/-- THE SECOND FORM's CARD OF 'plugboardlaw14.TextsLanguages'. -/
def textsLanguagesUptoCard : Claim7 := { stood := { row := textsLanguagesUptoRow, standIns := [], harness := (true, "ea16269a0d3c424dec50f8be9540deb0d4357d42a44ad8276bd7fdd97f873771"), looks := false }, kinds := [], alts := [], laidByText := true, laidKinds := [.data, .pinned], laidTests := true, laidLooks := .later }
def TextsLanguagesUptoCardSaid : Prop := Claim7.holds Tryd.pinned (.plain (OpenSpec.upto textsLanguagesSpec)) textsLanguagesUptoCard
end Rows
end Go.Proofs.YtokijdgakphfiaaDoor
