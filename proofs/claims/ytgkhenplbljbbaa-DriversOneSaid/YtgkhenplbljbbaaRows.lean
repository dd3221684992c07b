/-
  No cell of these rows narrows 'for every input' (looked for: loops, veiled, ifaces, maps, wideKeys, modest, calm, conditions, laid).
  DERIVED. THE GIVEN ROWS OF THIS SEAT. 6 by the template 'for every input the law returns true; each argument reads behind the call as it read before'; 0 by the template 'total and deterministic' (their statements: YtgkhenplbljbbaaTotals.lean).
  GIVEN WITH THE SEED: the statements are not yours to turn. If you find one false, say at which input.
  Laid BY PROGRAM, IN A SANDBOX (cutbox-rows.mjs): the forced cells as the released guide's own fill.sh prints them over the translation a27fcd1cb9d16268… (all of the seat's roots in one cut). By AI agents, Wed Nov 11 2026. No macro, syntax, notation, axiom, sorry.
-/
import Derived.Test.YtgkhenplbljbbaaChecked
import GoSem.Claim
import GoSem.ClaimJoined
import GoSem.ClaimMapViews
import Derived.JoinedTies
import Derived.KernelRfl
namespace Go.Proofs.Ytgkhenplbljbbaa
/- THE CELL 'sum', in the pinned program and in every row, IS THE sha256 OF THE DUMP (.gsa) THAT YtgkhenplbljbbaaProg.lean LOADS. Nothing in Lean hashes anything: it is a label: what it is worth is what the hold of that sum in a sandbox is worth. -/
noncomputable def Try.pinned : Pinned := { name := "ytgkhenplbljbbaa", sum := "a27fcd1cb9d1626862a1b72717bc2ed88ca810591780320c3ba73673fcfcfb9a", checked := Try.checked }
namespace Rows
def none {H : Type} : Left H := { results := [], args := [] }

/-- 'plugboardlaw30.DriversMatch': WHATEVER THE INPUT: true; the input reads as it did. -/
def driversMatchSpec : ChangeSpec := { name := "driversMatch", fn := fun _ => fun
  | [d1, d2, d3] => { results := [.lit (.bool true)], args := [d1, d2, d3] }
  | _ => none }
def driversMatchRow : OpenClaim := { program := "ytgkhenplbljbbaa", sum := "a27fcd1cb9d1626862a1b72717bc2ed88ca810591780320c3ba73673fcfcfb9a", func := "plugboard/plugboardlaw30.DriversMatch", spec := "driversMatch", unfollowed := true, recurses := true, apart := false }
def DriversMatchSaid : Prop := driversMatchRow.holds Try.pinned (OpenSpec.ofChange driversMatchSpec)

/-- ITS FALSE NEIGHBOUR: 'it returns false'. Refute it at one input. -/
def driversMatchWrong : ChangeSpec := { name := "driversMatch", fn := fun _ => fun
  | [d1, d2, d3] => { results := [.lit (.bool false)], args := [d1, d2, d3] }
  | _ => none }
def DriversMatchWrongFalsely : Prop := driversMatchRow.holds Try.pinned (OpenSpec.ofChange driversMatchWrong)

/-- 'plugboardlaw30.DriversScore': WHATEVER THE INPUT: true; the input reads as it did. -/
def driversScoreSpec : ChangeSpec := { name := "driversScore", fn := fun _ => fun
  | [d1, d2, d3] => { results := [.lit (.bool true)], args := [d1, d2, d3] }
  | _ => none }
def driversScoreRow : OpenClaim := { program := "ytgkhenplbljbbaa", sum := "a27fcd1cb9d1626862a1b72717bc2ed88ca810591780320c3ba73673fcfcfb9a", func := "plugboard/plugboardlaw30.DriversScore", spec := "driversScore", unfollowed := true, recurses := true, apart := false }
def DriversScoreSaid : Prop := driversScoreRow.holds Try.pinned (OpenSpec.ofChange driversScoreSpec)

/-- ITS FALSE NEIGHBOUR: 'it returns false'. Refute it at one input. -/
def driversScoreWrong : ChangeSpec := { name := "driversScore", fn := fun _ => fun
  | [d1, d2, d3] => { results := [.lit (.bool false)], args := [d1, d2, d3] }
  | _ => none }
def DriversScoreWrongFalsely : Prop := driversScoreRow.holds Try.pinned (OpenSpec.ofChange driversScoreWrong)

/-- 'plugboardlaw30.DriversBehind': WHATEVER THE INPUT: true; the input reads as it did. -/
def driversBehindSpec : ChangeSpec := { name := "driversBehind", fn := fun _ => fun
  | [d1, d2, d3] => { results := [.lit (.bool true)], args := [d1, d2, d3] }
  | _ => none }
def driversBehindRow : OpenClaim := { program := "ytgkhenplbljbbaa", sum := "a27fcd1cb9d1626862a1b72717bc2ed88ca810591780320c3ba73673fcfcfb9a", func := "plugboard/plugboardlaw30.DriversBehind", spec := "driversBehind", unfollowed := true, recurses := true, apart := false }
def DriversBehindSaid : Prop := driversBehindRow.holds Try.pinned (OpenSpec.ofChange driversBehindSpec)

/-- ITS FALSE NEIGHBOUR: 'it returns false'. Refute it at one input. -/
def driversBehindWrong : ChangeSpec := { name := "driversBehind", fn := fun _ => fun
  | [d1, d2, d3] => { results := [.lit (.bool false)], args := [d1, d2, d3] }
  | _ => none }
def DriversBehindWrongFalsely : Prop := driversBehindRow.holds Try.pinned (OpenSpec.ofChange driversBehindWrong)

/-- 'plugboardlaw30.DriversChoose': WHATEVER THE INPUT: true; the input reads as it did. -/
def driversChooseSpec : ChangeSpec := { name := "driversChoose", fn := fun _ => fun
  | [d1, d2, d3] => { results := [.lit (.bool true)], args := [d1, d2, d3] }
  | _ => none }
def driversChooseRow : OpenClaim := { program := "ytgkhenplbljbbaa", sum := "a27fcd1cb9d1626862a1b72717bc2ed88ca810591780320c3ba73673fcfcfb9a", func := "plugboard/plugboardlaw30.DriversChoose", spec := "driversChoose", unfollowed := true, recurses := true, apart := false }
def DriversChooseSaid : Prop := driversChooseRow.holds Try.pinned (OpenSpec.ofChange driversChooseSpec)

/-- ITS FALSE NEIGHBOUR: 'it returns false'. Refute it at one input. -/
def driversChooseWrong : ChangeSpec := { name := "driversChoose", fn := fun _ => fun
  | [d1, d2, d3] => { results := [.lit (.bool false)], args := [d1, d2, d3] }
  | _ => none }
def DriversChooseWrongFalsely : Prop := driversChooseRow.holds Try.pinned (OpenSpec.ofChange driversChooseWrong)

/-- 'plugboardlaw30.DriversOne': WHATEVER THE INPUT: true; the input reads as it did. -/
def driversOneSpec : ChangeSpec := { name := "driversOne", fn := fun _ => fun
  | [d1, d2] => { results := [.lit (.bool true)], args := [d1, d2] }
  | _ => none }
def driversOneRow : OpenClaim := { program := "ytgkhenplbljbbaa", sum := "a27fcd1cb9d1626862a1b72717bc2ed88ca810591780320c3ba73673fcfcfb9a", func := "plugboard/plugboardlaw30.DriversOne", spec := "driversOne", unfollowed := true, recurses := true, apart := false }
def DriversOneSaid : Prop := driversOneRow.holds Try.pinned (OpenSpec.ofChange driversOneSpec)

/-- ITS FALSE NEIGHBOUR: 'it returns false'. Refute it at one input. -/
def driversOneWrong : ChangeSpec := { name := "driversOne", fn := fun _ => fun
  | [d1, d2] => { results := [.lit (.bool false)], args := [d1, d2] }
  | _ => none }
def DriversOneWrongFalsely : Prop := driversOneRow.holds Try.pinned (OpenSpec.ofChange driversOneWrong)

/-- 'plugboardlaw30.DriversCheck': WHATEVER THE INPUT: true; the input reads as it did. -/
def driversCheckSpec : ChangeSpec := { name := "driversCheck", fn := fun _ => fun
  | [d1, d2, d3] => { results := [.lit (.bool true)], args := [d1, d2, d3] }
  | _ => none }
def driversCheckRow : OpenClaim := { program := "ytgkhenplbljbbaa", sum := "a27fcd1cb9d1626862a1b72717bc2ed88ca810591780320c3ba73673fcfcfb9a", func := "plugboard/plugboardlaw30.DriversCheck", spec := "driversCheck", unfollowed := true, recurses := true, apart := false }
def DriversCheckSaid : Prop := driversCheckRow.holds Try.pinned (OpenSpec.ofChange driversCheckSpec)

/-- ITS FALSE NEIGHBOUR: 'it returns false'. Refute it at one input. -/
def driversCheckWrong : ChangeSpec := { name := "driversCheck", fn := fun _ => fun
  | [d1, d2, d3] => { results := [.lit (.bool false)], args := [d1, d2, d3] }
  | _ => none }
def DriversCheckWrongFalsely : Prop := driversCheckRow.holds Try.pinned (OpenSpec.ofChange driversCheckWrong)

/- THE SECOND FORM. 'bulk': how many values and letters a reading holds, each counted each time it is reached (what is shared counts as often as it is met; a slice's spare places count too). A statement '..UptoSaid' is the law's where the arguments, and the package variables that the reading takes, are together of bulk at most 1048576: NARROWER than '..Said'. Prove '..Said' where nothing that the law and all that it calls make is longer than what came in: it says more and counts as full. Else prove '..UptoSaid'. A law counts once. -/
mutual
def uptoBulk {H : Type} : DataW H → Nat
  | .lit (.string bytes) => bytes.length + 1
  | .lit _ => 1
  | .nil => 1
  | .ptr d => uptoBulk d + 1
  | .slice elems spare => uptoBulkAll elems + uptoBulkAll spare + 1
  | .agg parts => uptoBulkAll parts + 1
  | .iface _ d => uptoBulk d + 1
  | .map entries => uptoBulkEntries entries + 1
  | .held _ => 1
def uptoBulkAll {H : Type} : List (DataW H) → Nat
  | [] => 0
  | d :: r => uptoBulk d + uptoBulkAll r
def uptoBulkEntries {H : Type} : List (Lit × DataW H) → Nat
  | [] => 0
  | x :: r => uptoBulkEntry x + uptoBulkEntries r
def uptoBulkEntry {H : Type} : Lit × DataW H → Nat
  | (.string bytes, d) => bytes.length + uptoBulk d + 1
  | (_, d) => uptoBulk d + 1
 end
def uptoSmall : (H : Type) → List (DataW H) → Bool := fun _ ds => decide (uptoBulkAll ds ≤ 1048576)
def OpenSpec.upto (s : _root_.Go.ChangeSpec) : _root_.Go.OpenSpec := { _root_.Go.OpenSpec.ofChange s with cond := some uptoSmall }

/-- 'plugboardlaw30.DriversMatch', WHERE WHAT IT READS IS OF BULK AT MOST 1048576: true; the input reads as it did. -/
def driversMatchUptoRow : OpenClaim := { program := "ytgkhenplbljbbaa", sum := "a27fcd1cb9d1626862a1b72717bc2ed88ca810591780320c3ba73673fcfcfb9a", func := "plugboard/plugboardlaw30.DriversMatch", spec := "driversMatch", unfollowed := true, recurses := true, apart := false, narrowed := true }
def DriversMatchUptoSaid : Prop := driversMatchUptoRow.holds Try.pinned (OpenSpec.upto driversMatchSpec)

/-- 'plugboardlaw30.DriversScore', WHERE WHAT IT READS IS OF BULK AT MOST 1048576: true; the input reads as it did. -/
def driversScoreUptoRow : OpenClaim := { program := "ytgkhenplbljbbaa", sum := "a27fcd1cb9d1626862a1b72717bc2ed88ca810591780320c3ba73673fcfcfb9a", func := "plugboard/plugboardlaw30.DriversScore", spec := "driversScore", unfollowed := true, recurses := true, apart := false, narrowed := true }
def DriversScoreUptoSaid : Prop := driversScoreUptoRow.holds Try.pinned (OpenSpec.upto driversScoreSpec)

/-- 'plugboardlaw30.DriversBehind', WHERE WHAT IT READS IS OF BULK AT MOST 1048576: true; the input reads as it did. -/
def driversBehindUptoRow : OpenClaim := { program := "ytgkhenplbljbbaa", sum := "a27fcd1cb9d1626862a1b72717bc2ed88ca810591780320c3ba73673fcfcfb9a", func := "plugboard/plugboardlaw30.DriversBehind", spec := "driversBehind", unfollowed := true, recurses := true, apart := false, narrowed := true }
def DriversBehindUptoSaid : Prop := driversBehindUptoRow.holds Try.pinned (OpenSpec.upto driversBehindSpec)

/-- 'plugboardlaw30.DriversChoose', WHERE WHAT IT READS IS OF BULK AT MOST 1048576: true; the input reads as it did. -/
def driversChooseUptoRow : OpenClaim := { program := "ytgkhenplbljbbaa", sum := "a27fcd1cb9d1626862a1b72717bc2ed88ca810591780320c3ba73673fcfcfb9a", func := "plugboard/plugboardlaw30.DriversChoose", spec := "driversChoose", unfollowed := true, recurses := true, apart := false, narrowed := true }
def DriversChooseUptoSaid : Prop := driversChooseUptoRow.holds Try.pinned (OpenSpec.upto driversChooseSpec)

/-- 'plugboardlaw30.DriversOne', WHERE WHAT IT READS IS OF BULK AT MOST 1048576: true; the input reads as it did. -/
def driversOneUptoRow : OpenClaim := { program := "ytgkhenplbljbbaa", sum := "a27fcd1cb9d1626862a1b72717bc2ed88ca810591780320c3ba73673fcfcfb9a", func := "plugboard/plugboardlaw30.DriversOne", spec := "driversOne", unfollowed := true, recurses := true, apart := false, narrowed := true }
def DriversOneUptoSaid : Prop := driversOneUptoRow.holds Try.pinned (OpenSpec.upto driversOneSpec)

/-- 'plugboardlaw30.DriversCheck', WHERE WHAT IT READS IS OF BULK AT MOST 1048576: true; the input reads as it did. -/
def driversCheckUptoRow : OpenClaim := { program := "ytgkhenplbljbbaa", sum := "a27fcd1cb9d1626862a1b72717bc2ed88ca810591780320c3ba73673fcfcfb9a", func := "plugboard/plugboardlaw30.DriversCheck", spec := "driversCheck", unfollowed := true, recurses := true, apart := false, narrowed := true }
def DriversCheckUptoSaid : Prop := driversCheckUptoRow.holds Try.pinned (OpenSpec.upto driversCheckSpec)

end Rows
end Go.Proofs.Ytgkhenplbljbbaa
