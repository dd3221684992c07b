/-
  No cell of these rows narrows 'for every input' (looked for: loops, veiled, ifaces, maps, wideKeys, modest, calm, conditions, laid).
  DERIVED. THE GIVEN ROWS OF THIS SEAT. 5 by the template 'for every input the law returns true; each argument reads behind the call as it read before'; 0 by the template 'total and deterministic' (their statements: YtegdigfcgeoboaaTotals.lean).
  GIVEN WITH THE SEED: the statements are not yours to turn. If you find one false, say at which input.
  Laid BY PROGRAM, IN A SANDBOX (cutbox-rows.mjs): the forced cells as the released guide's own fill.sh prints them over the translation 37d9c47ae66f3798… (all of the seat's roots in one cut). By AI agents, Wed Nov 11 2026. No macro, syntax, notation, axiom, sorry.
-/
import Derived.Test.YtegdigfcgeoboaaChecked
import GoSem.Claim
import GoSem.ClaimJoined
import GoSem.ClaimMapViews
import Derived.JoinedTies
import Derived.KernelRfl
namespace Go.Proofs.Ytegdigfcgeoboaa
/- THE CELL 'sum', in the pinned program and in every row, IS THE sha256 OF THE DUMP (.gsa) THAT YtegdigfcgeoboaaProg.lean LOADS. Nothing in Lean hashes anything: it is a label: what it is worth is what the hold of that sum in a sandbox is worth. -/
noncomputable def Try.pinned : Pinned := { name := "ytegdigfcgeoboaa", sum := "37d9c47ae66f3798181c454466249a40b15ced916ddca66fa8d4255397e09e77", checked := Try.checked }
namespace Rows
def none {H : Type} : Left H := { results := [], args := [] }

/-- 'plugboardlaw34.ReportsItems': WHATEVER THE INPUT: true; the input reads as it did. -/
def reportsItemsSpec : ChangeSpec := { name := "reportsItems", fn := fun _ => fun
  | [d1, d2] => { results := [.lit (.bool true)], args := [d1, d2] }
  | _ => none }
def reportsItemsRow : OpenClaim := { program := "ytegdigfcgeoboaa", sum := "37d9c47ae66f3798181c454466249a40b15ced916ddca66fa8d4255397e09e77", func := "plugboard/plugboardlaw34.ReportsItems", spec := "reportsItems", unfollowed := true, recurses := true, plainKeys := false, apart := false }
def ReportsItemsSaid : Prop := reportsItemsRow.holds Try.pinned (OpenSpec.ofChange reportsItemsSpec)

/-- ITS FALSE NEIGHBOUR: 'it returns false'. Refute it at one input. -/
def reportsItemsWrong : ChangeSpec := { name := "reportsItems", fn := fun _ => fun
  | [d1, d2] => { results := [.lit (.bool false)], args := [d1, d2] }
  | _ => none }
def ReportsItemsWrongFalsely : Prop := reportsItemsRow.holds Try.pinned (OpenSpec.ofChange reportsItemsWrong)

/-- 'plugboardlaw34.ReportsParse': WHATEVER THE INPUT: true; the input reads as it did. -/
def reportsParseSpec : ChangeSpec := { name := "reportsParse", fn := fun _ => fun
  | [d] => { results := [.lit (.bool true)], args := [d] }
  | _ => none }
def reportsParseRow : OpenClaim := { program := "ytegdigfcgeoboaa", sum := "37d9c47ae66f3798181c454466249a40b15ced916ddca66fa8d4255397e09e77", func := "plugboard/plugboardlaw34.ReportsParse", spec := "reportsParse", unfollowed := true, recurses := true, plainKeys := false, apart := false }
def ReportsParseSaid : Prop := reportsParseRow.holds Try.pinned (OpenSpec.ofChange reportsParseSpec)

/-- ITS FALSE NEIGHBOUR: 'it returns false'. Refute it at one input. -/
def reportsParseWrong : ChangeSpec := { name := "reportsParse", fn := fun _ => fun
  | [d] => { results := [.lit (.bool false)], args := [d] }
  | _ => none }
def ReportsParseWrongFalsely : Prop := reportsParseRow.holds Try.pinned (OpenSpec.ofChange reportsParseWrong)

/-- 'plugboardlaw34.ReportsLimits': WHATEVER THE INPUT: true; the input reads as it did. -/
def reportsLimitsSpec : ChangeSpec := { name := "reportsLimits", fn := fun _ => fun
  | [d] => { results := [.lit (.bool true)], args := [d] }
  | _ => none }
def reportsLimitsRow : OpenClaim := { program := "ytegdigfcgeoboaa", sum := "37d9c47ae66f3798181c454466249a40b15ced916ddca66fa8d4255397e09e77", func := "plugboard/plugboardlaw34.ReportsLimits", spec := "reportsLimits", unfollowed := true, recurses := true, plainKeys := false, apart := false }
def ReportsLimitsSaid : Prop := reportsLimitsRow.holds Try.pinned (OpenSpec.ofChange reportsLimitsSpec)

/-- ITS FALSE NEIGHBOUR: 'it returns false'. Refute it at one input. -/
def reportsLimitsWrong : ChangeSpec := { name := "reportsLimits", fn := fun _ => fun
  | [d] => { results := [.lit (.bool false)], args := [d] }
  | _ => none }
def ReportsLimitsWrongFalsely : Prop := reportsLimitsRow.holds Try.pinned (OpenSpec.ofChange reportsLimitsWrong)

/-- 'plugboardlaw34.ReportsTold': WHATEVER THE INPUT: true; the input reads as it did. -/
def reportsToldSpec : ChangeSpec := { name := "reportsTold", fn := fun _ => fun
  | [d1, d2] => { results := [.lit (.bool true)], args := [d1, d2] }
  | _ => none }
def reportsToldRow : OpenClaim := { program := "ytegdigfcgeoboaa", sum := "37d9c47ae66f3798181c454466249a40b15ced916ddca66fa8d4255397e09e77", func := "plugboard/plugboardlaw34.ReportsTold", spec := "reportsTold", unfollowed := true, recurses := true, plainKeys := false, apart := false }
def ReportsToldSaid : Prop := reportsToldRow.holds Try.pinned (OpenSpec.ofChange reportsToldSpec)

/-- ITS FALSE NEIGHBOUR: 'it returns false'. Refute it at one input. -/
def reportsToldWrong : ChangeSpec := { name := "reportsTold", fn := fun _ => fun
  | [d1, d2] => { results := [.lit (.bool false)], args := [d1, d2] }
  | _ => none }
def ReportsToldWrongFalsely : Prop := reportsToldRow.holds Try.pinned (OpenSpec.ofChange reportsToldWrong)

/-- 'plugboardlaw34.ReportsKnown': WHATEVER THE INPUT: true; the input reads as it did. -/
def reportsKnownSpec : ChangeSpec := { name := "reportsKnown", fn := fun _ => fun
  | [] => { results := [.lit (.bool true)], args := [] }
  | _ => none }
def reportsKnownRow : OpenClaim := { program := "ytegdigfcgeoboaa", sum := "37d9c47ae66f3798181c454466249a40b15ced916ddca66fa8d4255397e09e77", func := "plugboard/plugboardlaw34.ReportsKnown", spec := "reportsKnown", unfollowed := true, recurses := true, plainKeys := false, apart := false }
def ReportsKnownSaid : Prop := reportsKnownRow.holds Try.pinned (OpenSpec.ofChange reportsKnownSpec)

/-- ITS FALSE NEIGHBOUR: 'it returns false'. Refute it at one input. -/
def reportsKnownWrong : ChangeSpec := { name := "reportsKnown", fn := fun _ => fun
  | [] => { results := [.lit (.bool false)], args := [] }
  | _ => none }
def ReportsKnownWrongFalsely : Prop := reportsKnownRow.holds Try.pinned (OpenSpec.ofChange reportsKnownWrong)

/- THE SECOND FORM. 'bulk': how many values and letters a reading holds, each counted each time it is reached (what is shared counts as often as it is met; a slice's spare places count too). A statement '..UptoSaid' is the law's where the arguments, and the package variables that the reading takes, are together of bulk at most 1048576: NARROWER than '..Said'. Prove '..Said' where nothing that the law and all that it calls make is longer than what came in: it says more and counts as full. Else prove '..UptoSaid'. A law counts once. -/
mutual
def uptoBulk {H : Type} : DataW H → Nat
  | .lit (.string bytes) => bytes.length + 1
  | .lit _ => 1
  | .nil => 1
  | .ptr d => uptoBulk d + 1
  | .slice elems spare => uptoBulkAll elems + uptoBulkAll spare + 1
  | .agg parts => uptoBulkAll parts + 1
  | .iface _ d => uptoBulk d + 1
  | .map entries => uptoBulkEntries entries + 1
  | .held _ => 1
def uptoBulkAll {H : Type} : List (DataW H) → Nat
  | [] => 0
  | d :: r => uptoBulk d + uptoBulkAll r
def uptoBulkEntries {H : Type} : List (Lit × DataW H) → Nat
  | [] => 0
  | x :: r => uptoBulkEntry x + uptoBulkEntries r
def uptoBulkEntry {H : Type} : Lit × DataW H → Nat
  | (.string bytes, d) => bytes.length + uptoBulk d + 1
  | (_, d) => uptoBulk d + 1
 end
def uptoSmall : (H : Type) → List (DataW H) → Bool := fun _ ds => decide (uptoBulkAll ds ≤ 1048576)
def OpenSpec.upto (s : _root_.Go.ChangeSpec) : _root_.Go.OpenSpec := { _root_.Go.OpenSpec.ofChange s with cond := some uptoSmall }

/-- 'plugboardlaw34.ReportsItems', WHERE WHAT IT READS IS OF BULK AT MOST 1048576: true; the input reads as it did. -/
def reportsItemsUptoRow : OpenClaim := { program := "ytegdigfcgeoboaa", sum := "37d9c47ae66f3798181c454466249a40b15ced916ddca66fa8d4255397e09e77", func := "plugboard/plugboardlaw34.ReportsItems", spec := "reportsItems", unfollowed := true, recurses := true, plainKeys := false, apart := false, narrowed := true }
def ReportsItemsUptoSaid : Prop := reportsItemsUptoRow.holds Try.pinned (OpenSpec.upto reportsItemsSpec)

/-- 'plugboardlaw34.ReportsParse', WHERE WHAT IT READS IS OF BULK AT MOST 1048576: true; the input reads as it did. -/
def reportsParseUptoRow : OpenClaim := { program := "ytegdigfcgeoboaa", sum := "37d9c47ae66f3798181c454466249a40b15ced916ddca66fa8d4255397e09e77", func := "plugboard/plugboardlaw34.ReportsParse", spec := "reportsParse", unfollowed := true, recurses := true, plainKeys := false, apart := false, narrowed := true }
def ReportsParseUptoSaid : Prop := reportsParseUptoRow.holds Try.pinned (OpenSpec.upto reportsParseSpec)

/-- 'plugboardlaw34.ReportsLimits', WHERE WHAT IT READS IS OF BULK AT MOST 1048576: true; the input reads as it did. -/
def reportsLimitsUptoRow : OpenClaim := { program := "ytegdigfcgeoboaa", sum := "37d9c47ae66f3798181c454466249a40b15ced916ddca66fa8d4255397e09e77", func := "plugboard/plugboardlaw34.ReportsLimits", spec := "reportsLimits", unfollowed := true, recurses := true, plainKeys := false, apart := false, narrowed := true }
def ReportsLimitsUptoSaid : Prop := reportsLimitsUptoRow.holds Try.pinned (OpenSpec.upto reportsLimitsSpec)

/-- 'plugboardlaw34.ReportsTold', WHERE WHAT IT READS IS OF BULK AT MOST 1048576: true; the input reads as it did. -/
def reportsToldUptoRow : OpenClaim := { program := "ytegdigfcgeoboaa", sum := "37d9c47ae66f3798181c454466249a40b15ced916ddca66fa8d4255397e09e77", func := "plugboard/plugboardlaw34.ReportsTold", spec := "reportsTold", unfollowed := true, recurses := true, plainKeys := false, apart := false, narrowed := true }
def ReportsToldUptoSaid : Prop := reportsToldUptoRow.holds Try.pinned (OpenSpec.upto reportsToldSpec)

/-- 'plugboardlaw34.ReportsKnown', WHERE WHAT IT READS IS OF BULK AT MOST 1048576: true; the input reads as it did. -/
def reportsKnownUptoRow : OpenClaim := { program := "ytegdigfcgeoboaa", sum := "37d9c47ae66f3798181c454466249a40b15ced916ddca66fa8d4255397e09e77", func := "plugboard/plugboardlaw34.ReportsKnown", spec := "reportsKnown", unfollowed := true, recurses := true, plainKeys := false, apart := false, narrowed := true }
def ReportsKnownUptoSaid : Prop := reportsKnownUptoRow.holds Try.pinned (OpenSpec.upto reportsKnownSpec)

end Rows
end Go.Proofs.Ytegdigfcgeoboaa
