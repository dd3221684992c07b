/-
  DERIVED. GIVEN WITH THE SEED: THE CARDS: each row of YtjgncofhobhjdaaDoorRows.lean that lists a variable, with what it lists TIED to the program's text (the seventh form; the later family's looks); each row that meets fmt, with fmt's text TOLD by the authors' own Lean function (tested against real Go, not proved from fmt's source: count such statements apart). THE CARD IS WHAT COUNTS. Prove the row's statement (the work); the ties are given (YtjgncofhobhjdaaDoorTie.lean); close each card by the builder's one call (the guide's Derived/Test/ToyasCard.lean, 'card_holds'). Laid BY PROGRAM, IN A SANDBOX (cutbox-door.mjs). By AI agents, Wed Nov 11 2026. No macro, syntax, notation, axiom, sorry.
-/
import Derived.Test.YtjgncofhobhjdaaDoorRows
import GoSem.ClaimSeven
namespace Go.Proofs.YtjgncofhobhjdaaDoor
namespace Rows

/-- THE TIED CARD OF 'plugboardlaw15.ConfigurationsBack'. -/
def configurationsBackCard : Claim7 := { stood := { row := configurationsBackRow, standIns := [], harness := (true, "bf7b2066b36669169bee3cc84421b25836b3b0bb02c160730477669e47f7c5ec"), looks := false }, kinds := [], alts := [], laidByText := true, laidKinds := [.data, .data, .data], laidTests := true, laidLooks := .later }
def ConfigurationsBackCardSaid : Prop := Claim7.holds Tryd.pinned (.plain (OpenSpec.ofChange configurationsBackSpec)) configurationsBackCard

/-- THE TIED CARD OF 'plugboardlaw15.ConfigurationsParse'. -/
def configurationsParseCard : Claim7 := { stood := { row := configurationsParseRow, standIns := [], harness := (true, "bf7b2066b36669169bee3cc84421b25836b3b0bb02c160730477669e47f7c5ec"), looks := false }, kinds := [], alts := [], laidByText := true, laidKinds := [.data, .data, .data], laidTests := true, laidLooks := .later }
def ConfigurationsParseCardSaid : Prop := Claim7.holds Tryd.pinned (.plain (OpenSpec.ofChange configurationsParseSpec)) configurationsParseCard

/-- THE TIED CARD OF 'plugboardlaw15.ConfigurationsBytes'. -/
def configurationsBytesCard : Claim7 := { stood := { row := configurationsBytesRow, standIns := [], harness := (true, "bf7b2066b36669169bee3cc84421b25836b3b0bb02c160730477669e47f7c5ec"), looks := false }, kinds := [], alts := [], laidByText := true, laidKinds := [.data, .data, .data], laidTests := true, laidLooks := .later }
def ConfigurationsBytesCardSaid : Prop := Claim7.holds Tryd.pinned (.plain (OpenSpec.ofChange configurationsBytesSpec)) configurationsBytesCard

/-- THE TIED CARD OF 'plugboardlaw15.ConfigurationsCheck'. -/
def configurationsCheckCard : Claim7 := { stood := { row := configurationsCheckRow, standIns := [], harness := (true, "bf7b2066b36669169bee3cc84421b25836b3b0bb02c160730477669e47f7c5ec"), looks := false }, kinds := [], alts := [], laidByText := true, laidKinds := [.data, .data, .data], laidTests := true, laidLooks := .later }
def ConfigurationsCheckCardSaid : Prop := Claim7.holds Tryd.pinned (.plain (OpenSpec.ofChange configurationsCheckSpec)) configurationsCheckCard

/-- THE TIED CARD OF 'plugboardlaw15.ConfigurationsFill'. -/
def configurationsFillCard : Claim7 := { stood := { row := configurationsFillRow, standIns := [], harness := (true, "bf7b2066b36669169bee3cc84421b25836b3b0bb02c160730477669e47f7c5ec"), looks := false }, kinds := [], alts := [], laidByText := true, laidKinds := [.data, .data, .data], laidTests := true, laidLooks := .later }
def ConfigurationsFillCardSaid : Prop := Claim7.holds Tryd.pinned (.plain (OpenSpec.ofChange configurationsFillSpec)) configurationsFillCard

/-- THE TIED CARD OF 'plugboardlaw15.ConfigurationsText'. -/
def configurationsTextCard : Claim7 := { stood := { row := configurationsTextRow, standIns := [], harness := (true, "bf7b2066b36669169bee3cc84421b25836b3b0bb02c160730477669e47f7c5ec"), looks := false }, kinds := [], alts := [], laidByText := true, laidKinds := [.data, .data, .data], laidTests := true, laidLooks := .later }
def ConfigurationsTextCardSaid : Prop := Claim7.holds Tryd.pinned (.plain (OpenSpec.ofChange configurationsTextSpec)) configurationsTextCard

/-- THE TIED CARD OF 'plugboardlaw15.ConfigurationsSame'. -/
def configurationsSameCard : Claim7 := { stood := { row := configurationsSameRow, standIns := [], harness := (true, "bf7b2066b36669169bee3cc84421b25836b3b0bb02c160730477669e47f7c5ec"), looks := false }, kinds := [], alts := [], laidByText := true, laidKinds := [.data, .data, .data], laidTests := true, laidLooks := .later }
def ConfigurationsSameCardSaid : Prop := Claim7.holds Tryd.pinned (.plain (OpenSpec.ofChange configurationsSameSpec)) configurationsSameCard

/-- THE TIED CARD OF 'plugboardlaw15.ConfigurationsUse'. -/
def configurationsUseCard : Claim7 := { stood := { row := configurationsUseRow, standIns := [], harness := (true, "bf7b2066b36669169bee3cc84421b25836b3b0bb02c160730477669e47f7c5ec"), looks := false }, kinds := [], alts := [], laidByText := true, laidKinds := [.data, .data, .data], laidTests := true, laidLooks := .later }
def ConfigurationsUseCardSaid : Prop := Claim7.holds Tryd.pinned (.plain (OpenSpec.ofChange configurationsUseSpec)) configurationsUseCard

/-- THE TIED CARD OF 'plugboardlaw15.ConfigurationsFits'. -/
def configurationsFitsCard : Claim7 := { stood := { row := configurationsFitsRow, standIns := [], harness := (true, "bf7b2066b36669169bee3cc84421b25836b3b0bb02c160730477669e47f7c5ec"), looks := false }, kinds := [], alts := [], laidByText := true, laidKinds := [.data, .data, .data], laidTests := true, laidLooks := .later }
def ConfigurationsFitsCardSaid : Prop := Claim7.holds Tryd.pinned (.plain (OpenSpec.ofChange configurationsFitsSpec)) configurationsFitsCard

/-- THE SECOND FORM's CARD OF 'plugboardlaw15.ConfigurationsBack'. -/
def configurationsBackUptoCard : Claim7 := { stood := { row := configurationsBackUptoRow, standIns := [], harness := (true, "bf7b2066b36669169bee3cc84421b25836b3b0bb02c160730477669e47f7c5ec"), looks := false }, kinds := [], alts := [], laidByText := true, laidKinds := [.data, .data, .data], laidTests := true, laidLooks := .later }
def ConfigurationsBackUptoCardSaid : Prop := Claim7.holds Tryd.pinned (.plain (OpenSpec.upto configurationsBackSpec)) configurationsBackUptoCard

/-- THE SECOND FORM's CARD OF 'plugboardlaw15.ConfigurationsParse'. -/
def configurationsParseUptoCard : Claim7 := { stood := { row := configurationsParseUptoRow, standIns := [], harness := (true, "bf7b2066b36669169bee3cc84421b25836b3b0bb02c160730477669e47f7c5ec"), looks := false }, kinds := [], alts := [], laidByText := true, laidKinds := [.data, .data, .data], laidTests := true, laidLooks := .later }
def ConfigurationsParseUptoCardSaid : Prop := Claim7.holds Tryd.pinned (.plain (OpenSpec.upto configurationsParseSpec)) configurationsParseUptoCard

/-- THE SECOND FORM's CARD OF 'plugboardlaw15.ConfigurationsBytes'. -/
def configurationsBytesUptoCard : Claim7 := { stood := { row := configurationsBytesUptoRow, standIns := [], harness := (true, "bf7b2066b36669169bee3cc84421b25836b3b0bb02c160730477669e47f7c5ec"), looks := false }, kinds := [], alts := [], laidByText := true, laidKinds := [.data, .data, .data], laidTests := true, laidLooks := .later }
def ConfigurationsBytesUptoCardSaid : Prop := Claim7.holds Tryd.pinned (.plain (OpenSpec.upto configurationsBytesSpec)) configurationsBytesUptoCard

/-- THE SECOND FORM's CARD OF 'plugboardlaw15.ConfigurationsCheck'. -/
def configurationsCheckUptoCard : Claim7 := { stood := { row := configurationsCheckUptoRow, standIns := [], harness := (true, "bf7b2066b36669169bee3cc84421b25836b3b0bb02c160730477669e47f7c5ec"), looks := false }, kinds := [], alts := [], laidByText := true, laidKinds := [.data, .data, .data], laidTests := true, laidLooks := .later }
def ConfigurationsCheckUptoCardSaid : Prop := Claim7.holds Tryd.pinned (.plain (OpenSpec.upto configurationsCheckSpec)) configurationsCheckUptoCard

/-- THE SECOND FORM's CARD OF 'plugboardlaw15.ConfigurationsFill'. -/
def configurationsFillUptoCard : Claim7 := { stood := { row := configurationsFillUptoRow, standIns := [], harness := (true, "bf7b2066b36669169bee3cc84421b25836b3b0bb02c160730477669e47f7c5ec"), looks := false }, kinds := [], alts := [], laidByText := true, laidKinds := [.data, .data, .data], laidTests := true, laidLooks := .later }
def ConfigurationsFillUptoCardSaid : Prop := Claim7.holds Tryd.pinned (.plain (OpenSpec.upto configurationsFillSpec)) configurationsFillUptoCard

/-- THE SECOND FORM's CARD OF 'plugboardlaw15.ConfigurationsText'. -/
def configurationsTextUptoCard : Claim7 := { stood := { row := configurationsTextUptoRow, standIns := [], harness := (true, "bf7b2066b36669169bee3cc84421b25836b3b0bb02c160730477669e47f7c5ec"), looks := false }, kinds := [], alts := [], laidByText := true, laidKinds := [.data, .data, .data], laidTests := true, laidLooks := .later }
def ConfigurationsTextUptoCardSaid : Prop := Claim7.holds Tryd.pinned (.plain (OpenSpec.upto configurationsTextSpec)) configurationsTextUptoCard

/-- THE SECOND FORM's CARD OF 'plugboardlaw15.ConfigurationsSame'. -/
def configurationsSameUptoCard : Claim7 := { stood := { row := configurationsSameUptoRow, standIns := [], harness := (true, "bf7b2066b36669169bee3cc84421b25836b3b0bb02c160730477669e47f7c5ec"), looks := false }, kinds := [], alts := [], laidByText := true, laidKinds := [.data, .data, .data], laidTests := true, laidLooks := .later }
def ConfigurationsSameUptoCardSaid : Prop := Claim7.holds Tryd.pinned (.plain (OpenSpec.upto configurationsSameSpec)) configurationsSameUptoCard

/-- THE SECOND FORM's CARD OF 'plugboardlaw15.ConfigurationsUse'. -/
def configurationsUseUptoCard : Claim7 := { stood := { row := configurationsUseUptoRow, standIns := [], harness := (true, "bf7b2066b36669169bee3cc84421b25836b3b0bb02c160730477669e47f7c5ec"), looks := false }, kinds := [], alts := [], laidByText := true, laidKinds := [.data, .data, .data], laidTests := true, laidLooks := .later }
def ConfigurationsUseUptoCardSaid : Prop := Claim7.holds Tryd.pinned (.plain (OpenSpec.upto configurationsUseSpec)) configurationsUseUptoCard

/-- THE SECOND FORM's CARD OF 'plugboardlaw15.ConfigurationsFits'. -/
def configurationsFitsUptoCard : Claim7 := { stood := { row := configurationsFitsUptoRow, standIns := [], harness := (true, "bf7b2066b36669169bee3cc84421b25836b3b0bb02c160730477669e47f7c5ec"), looks := false }, kinds := [], alts := [], laidByText := true, laidKinds := [.data, .data, .data], laidTests := true, laidLooks := .later }
def ConfigurationsFitsUptoCardSaid : Prop := Claim7.holds Tryd.pinned (.plain (OpenSpec.upto configurationsFitsSpec)) configurationsFitsUptoCard
end Rows
end Go.Proofs.YtjgncofhobhjdaaDoor
