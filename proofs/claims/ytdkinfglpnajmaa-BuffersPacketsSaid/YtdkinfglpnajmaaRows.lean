/-
  No cell of these rows narrows 'for every input' (looked for: loops, veiled, ifaces, maps, wideKeys, modest, calm, conditions, laid).
  DERIVED. THE GIVEN ROWS OF THIS SEAT. 7 by the template 'for every input the law returns true; each argument reads behind the call as it read before'; 0 by the template 'total and deterministic' (their statements: YtdkinfglpnajmaaTotals.lean).
  GIVEN WITH THE SEED: the statements are not yours to turn. If you find one false, say at which input.
  Laid BY PROGRAM, IN A SANDBOX (cutbox-rows.mjs): the forced cells as the released guide's own fill.sh prints them over the translation ab02aa05df6199e7… (all of the seat's roots in one cut). By AI agents, Wed Nov 11 2026. No macro, syntax, notation, axiom, sorry.
-/
import Derived.Test.YtdkinfglpnajmaaChecked
import GoSem.Claim
import GoSem.ClaimJoined
import GoSem.ClaimMapViews
import Derived.JoinedTies
import Derived.KernelRfl
namespace Go.Proofs.Ytdkinfglpnajmaa
/- THE CELL 'sum', in the pinned program and in every row, IS THE sha256 OF THE DUMP (.gsa) THAT YtdkinfglpnajmaaProg.lean LOADS. Nothing in Lean hashes anything: it is a label: what it is worth is what the hold of that sum in a sandbox is worth. -/
noncomputable def Try.pinned : Pinned := { name := "ytdkinfglpnajmaa", sum := "ab02aa05df6199e762593ba1d57092531100c735a75af2c8f4582df2eefac20e", checked := Try.checked }
namespace Rows
def none {H : Type} : Left H := { results := [], args := [] }

/-- 'plugboardlaw28.BuffersGather': WHATEVER THE INPUT: true; the input reads as it did. -/
def buffersGatherSpec : ChangeSpec := { name := "buffersGather", fn := fun _ => fun
  | [d] => { results := [.lit (.bool true)], args := [d] }
  | _ => none }
def buffersGatherRow : OpenClaim := { program := "ytdkinfglpnajmaa", sum := "ab02aa05df6199e762593ba1d57092531100c735a75af2c8f4582df2eefac20e", func := "plugboard/plugboardlaw28.BuffersGather", spec := "buffersGather", unfollowed := true, recurses := true, apart := false }
def BuffersGatherSaid : Prop := buffersGatherRow.holds Try.pinned (OpenSpec.ofChange buffersGatherSpec)

/-- ITS FALSE NEIGHBOUR: 'it returns false'. Refute it at one input. -/
def buffersGatherWrong : ChangeSpec := { name := "buffersGather", fn := fun _ => fun
  | [d] => { results := [.lit (.bool false)], args := [d] }
  | _ => none }
def BuffersGatherWrongFalsely : Prop := buffersGatherRow.holds Try.pinned (OpenSpec.ofChange buffersGatherWrong)

/-- 'plugboardlaw28.BuffersScatter': WHATEVER THE INPUT: true; the input reads as it did. -/
def buffersScatterSpec : ChangeSpec := { name := "buffersScatter", fn := fun _ => fun
  | [d1, d2] => { results := [.lit (.bool true)], args := [d1, d2] }
  | _ => none }
def buffersScatterRow : OpenClaim := { program := "ytdkinfglpnajmaa", sum := "ab02aa05df6199e762593ba1d57092531100c735a75af2c8f4582df2eefac20e", func := "plugboard/plugboardlaw28.BuffersScatter", spec := "buffersScatter", unfollowed := true, recurses := true, apart := false }
def BuffersScatterSaid : Prop := buffersScatterRow.holds Try.pinned (OpenSpec.ofChange buffersScatterSpec)

/-- ITS FALSE NEIGHBOUR: 'it returns false'. Refute it at one input. -/
def buffersScatterWrong : ChangeSpec := { name := "buffersScatter", fn := fun _ => fun
  | [d1, d2] => { results := [.lit (.bool false)], args := [d1, d2] }
  | _ => none }
def BuffersScatterWrongFalsely : Prop := buffersScatterRow.holds Try.pinned (OpenSpec.ofChange buffersScatterWrong)

/-- 'plugboardlaw28.BuffersCut': WHATEVER THE INPUT: true; the input reads as it did. -/
def buffersCutSpec : ChangeSpec := { name := "buffersCut", fn := fun _ => fun
  | [d1, d2, d3] => { results := [.lit (.bool true)], args := [d1, d2, d3] }
  | _ => none }
def buffersCutRow : OpenClaim := { program := "ytdkinfglpnajmaa", sum := "ab02aa05df6199e762593ba1d57092531100c735a75af2c8f4582df2eefac20e", func := "plugboard/plugboardlaw28.BuffersCut", spec := "buffersCut", unfollowed := true, recurses := true, apart := false }
def BuffersCutSaid : Prop := buffersCutRow.holds Try.pinned (OpenSpec.ofChange buffersCutSpec)

/-- ITS FALSE NEIGHBOUR: 'it returns false'. Refute it at one input. -/
def buffersCutWrong : ChangeSpec := { name := "buffersCut", fn := fun _ => fun
  | [d1, d2, d3] => { results := [.lit (.bool false)], args := [d1, d2, d3] }
  | _ => none }
def BuffersCutWrongFalsely : Prop := buffersCutRow.holds Try.pinned (OpenSpec.ofChange buffersCutWrong)

/-- 'plugboardlaw28.BuffersPackets': WHATEVER THE INPUT: true; the input reads as it did. -/
def buffersPacketsSpec : ChangeSpec := { name := "buffersPackets", fn := fun _ => fun
  | [d1, d2, d3] => { results := [.lit (.bool true)], args := [d1, d2, d3] }
  | _ => none }
def buffersPacketsRow : OpenClaim := { program := "ytdkinfglpnajmaa", sum := "ab02aa05df6199e762593ba1d57092531100c735a75af2c8f4582df2eefac20e", func := "plugboard/plugboardlaw28.BuffersPackets", spec := "buffersPackets", unfollowed := true, recurses := true, apart := false }
def BuffersPacketsSaid : Prop := buffersPacketsRow.holds Try.pinned (OpenSpec.ofChange buffersPacketsSpec)

/-- ITS FALSE NEIGHBOUR: 'it returns false'. Refute it at one input. -/
def buffersPacketsWrong : ChangeSpec := { name := "buffersPackets", fn := fun _ => fun
  | [d1, d2, d3] => { results := [.lit (.bool false)], args := [d1, d2, d3] }
  | _ => none }
def BuffersPacketsWrongFalsely : Prop := buffersPacketsRow.holds Try.pinned (OpenSpec.ofChange buffersPacketsWrong)

/-- 'plugboardlaw28.BuffersJoin': WHATEVER THE INPUT: true; the input reads as it did. -/
def buffersJoinSpec : ChangeSpec := { name := "buffersJoin", fn := fun _ => fun
  | [d] => { results := [.lit (.bool true)], args := [d] }
  | _ => none }
def buffersJoinRow : OpenClaim := { program := "ytdkinfglpnajmaa", sum := "ab02aa05df6199e762593ba1d57092531100c735a75af2c8f4582df2eefac20e", func := "plugboard/plugboardlaw28.BuffersJoin", spec := "buffersJoin", unfollowed := true, recurses := true, apart := false }
def BuffersJoinSaid : Prop := buffersJoinRow.holds Try.pinned (OpenSpec.ofChange buffersJoinSpec)

/-- ITS FALSE NEIGHBOUR: 'it returns false'. Refute it at one input. -/
def buffersJoinWrong : ChangeSpec := { name := "buffersJoin", fn := fun _ => fun
  | [d] => { results := [.lit (.bool false)], args := [d] }
  | _ => none }
def BuffersJoinWrongFalsely : Prop := buffersJoinRow.holds Try.pinned (OpenSpec.ofChange buffersJoinWrong)

/-- 'plugboardlaw28.BuffersPages': WHATEVER THE INPUT: true; the input reads as it did. -/
def buffersPagesSpec : ChangeSpec := { name := "buffersPages", fn := fun _ => fun
  | [d1, d2] => { results := [.lit (.bool true)], args := [d1, d2] }
  | _ => none }
def buffersPagesRow : OpenClaim := { program := "ytdkinfglpnajmaa", sum := "ab02aa05df6199e762593ba1d57092531100c735a75af2c8f4582df2eefac20e", func := "plugboard/plugboardlaw28.BuffersPages", spec := "buffersPages", unfollowed := true, recurses := true, apart := false }
def BuffersPagesSaid : Prop := buffersPagesRow.holds Try.pinned (OpenSpec.ofChange buffersPagesSpec)

/-- ITS FALSE NEIGHBOUR: 'it returns false'. Refute it at one input. -/
def buffersPagesWrong : ChangeSpec := { name := "buffersPages", fn := fun _ => fun
  | [d1, d2] => { results := [.lit (.bool false)], args := [d1, d2] }
  | _ => none }
def BuffersPagesWrongFalsely : Prop := buffersPagesRow.holds Try.pinned (OpenSpec.ofChange buffersPagesWrong)

/-- 'plugboardlaw28.BuffersErrors': WHATEVER THE INPUT: true; the input reads as it did. -/
def buffersErrorsSpec : ChangeSpec := { name := "buffersErrors", fn := fun _ => fun
  | [d1, d2, d3] => { results := [.lit (.bool true)], args := [d1, d2, d3] }
  | _ => none }
def buffersErrorsRow : OpenClaim := { program := "ytdkinfglpnajmaa", sum := "ab02aa05df6199e762593ba1d57092531100c735a75af2c8f4582df2eefac20e", func := "plugboard/plugboardlaw28.BuffersErrors", spec := "buffersErrors", unfollowed := true, recurses := true, apart := false }
def BuffersErrorsSaid : Prop := buffersErrorsRow.holds Try.pinned (OpenSpec.ofChange buffersErrorsSpec)

/-- ITS FALSE NEIGHBOUR: 'it returns false'. Refute it at one input. -/
def buffersErrorsWrong : ChangeSpec := { name := "buffersErrors", fn := fun _ => fun
  | [d1, d2, d3] => { results := [.lit (.bool false)], args := [d1, d2, d3] }
  | _ => none }
def BuffersErrorsWrongFalsely : Prop := buffersErrorsRow.holds Try.pinned (OpenSpec.ofChange buffersErrorsWrong)

/- THE SECOND FORM. 'bulk': how many values and letters a reading holds, each counted each time it is reached (what is shared counts as often as it is met; a slice's spare places count too). A statement '..UptoSaid' is the law's where the arguments, and the package variables that the reading takes, are together of bulk at most 1048576: NARROWER than '..Said'. Prove '..Said' where nothing that the law and all that it calls make is longer than what came in: it says more and counts as full. Else prove '..UptoSaid'. A law counts once. -/
mutual
def uptoBulk {H : Type} : DataW H → Nat
  | .lit (.string bytes) => bytes.length + 1
  | .lit _ => 1
  | .nil => 1
  | .ptr d => uptoBulk d + 1
  | .slice elems spare => uptoBulkAll elems + uptoBulkAll spare + 1
  | .agg parts => uptoBulkAll parts + 1
  | .iface _ d => uptoBulk d + 1
  | .map entries => uptoBulkEntries entries + 1
  | .held _ => 1
def uptoBulkAll {H : Type} : List (DataW H) → Nat
  | [] => 0
  | d :: r => uptoBulk d + uptoBulkAll r
def uptoBulkEntries {H : Type} : List (Lit × DataW H) → Nat
  | [] => 0
  | x :: r => uptoBulkEntry x + uptoBulkEntries r
def uptoBulkEntry {H : Type} : Lit × DataW H → Nat
  | (.string bytes, d) => bytes.length + uptoBulk d + 1
  | (_, d) => uptoBulk d + 1
 end
def uptoSmall : (H : Type) → List (DataW H) → Bool := fun _ ds => decide (uptoBulkAll ds ≤ 1048576)
def OpenSpec.upto (s : _root_.Go.ChangeSpec) : _root_.Go.OpenSpec := { _root_.Go.OpenSpec.ofChange s with cond := some uptoSmall }

/-- 'plugboardlaw28.BuffersGather', WHERE WHAT IT READS IS OF BULK AT MOST 1048576: true; the input reads as it did. -/
def buffersGatherUptoRow : OpenClaim := { program := "ytdkinfglpnajmaa", sum := "ab02aa05df6199e762593ba1d57092531100c735a75af2c8f4582df2eefac20e", func := "plugboard/plugboardlaw28.BuffersGather", spec := "buffersGather", unfollowed := true, recurses := true, apart := false, narrowed := true }
def BuffersGatherUptoSaid : Prop := buffersGatherUptoRow.holds Try.pinned (OpenSpec.upto buffersGatherSpec)

/-- 'plugboardlaw28.BuffersScatter', WHERE WHAT IT READS IS OF BULK AT MOST 1048576: true; the input reads as it did. -/
def buffersScatterUptoRow : OpenClaim := { program := "ytdkinfglpnajmaa", sum := "ab02aa05df6199e762593ba1d57092531100c735a75af2c8f4582df2eefac20e", func := "plugboard/plugboardlaw28.BuffersScatter", spec := "buffersScatter", unfollowed := true, recurses := true, apart := false, narrowed := true }
def BuffersScatterUptoSaid : Prop := buffersScatterUptoRow.holds Try.pinned (OpenSpec.upto buffersScatterSpec)

/-- 'plugboardlaw28.BuffersCut', WHERE WHAT IT READS IS OF BULK AT MOST 1048576: true; the input reads as it did. -/
def buffersCutUptoRow : OpenClaim := { program := "ytdkinfglpnajmaa", sum := "ab02aa05df6199e762593ba1d57092531100c735a75af2c8f4582df2eefac20e", func := "plugboard/plugboardlaw28.BuffersCut", spec := "buffersCut", unfollowed := true, recurses := true, apart := false, narrowed := true }
def BuffersCutUptoSaid : Prop := buffersCutUptoRow.holds Try.pinned (OpenSpec.upto buffersCutSpec)

/-- 'plugboardlaw28.BuffersPackets', WHERE WHAT IT READS IS OF BULK AT MOST 1048576: true; the input reads as it did. -/
def buffersPacketsUptoRow : OpenClaim := { program := "ytdkinfglpnajmaa", sum := "ab02aa05df6199e762593ba1d57092531100c735a75af2c8f4582df2eefac20e", func := "plugboard/plugboardlaw28.BuffersPackets", spec := "buffersPackets", unfollowed := true, recurses := true, apart := false, narrowed := true }
def BuffersPacketsUptoSaid : Prop := buffersPacketsUptoRow.holds Try.pinned (OpenSpec.upto buffersPacketsSpec)

/-- 'plugboardlaw28.BuffersJoin', WHERE WHAT IT READS IS OF BULK AT MOST 1048576: true; the input reads as it did. -/
def buffersJoinUptoRow : OpenClaim := { program := "ytdkinfglpnajmaa", sum := "ab02aa05df6199e762593ba1d57092531100c735a75af2c8f4582df2eefac20e", func := "plugboard/plugboardlaw28.BuffersJoin", spec := "buffersJoin", unfollowed := true, recurses := true, apart := false, narrowed := true }
def BuffersJoinUptoSaid : Prop := buffersJoinUptoRow.holds Try.pinned (OpenSpec.upto buffersJoinSpec)

/-- 'plugboardlaw28.BuffersPages', WHERE WHAT IT READS IS OF BULK AT MOST 1048576: true; the input reads as it did. -/
def buffersPagesUptoRow : OpenClaim := { program := "ytdkinfglpnajmaa", sum := "ab02aa05df6199e762593ba1d57092531100c735a75af2c8f4582df2eefac20e", func := "plugboard/plugboardlaw28.BuffersPages", spec := "buffersPages", unfollowed := true, recurses := true, apart := false, narrowed := true }
def BuffersPagesUptoSaid : Prop := buffersPagesUptoRow.holds Try.pinned (OpenSpec.upto buffersPagesSpec)

/-- 'plugboardlaw28.BuffersErrors', WHERE WHAT IT READS IS OF BULK AT MOST 1048576: true; the input reads as it did. -/
def buffersErrorsUptoRow : OpenClaim := { program := "ytdkinfglpnajmaa", sum := "ab02aa05df6199e762593ba1d57092531100c735a75af2c8f4582df2eefac20e", func := "plugboard/plugboardlaw28.BuffersErrors", spec := "buffersErrors", unfollowed := true, recurses := true, apart := false, narrowed := true }
def BuffersErrorsUptoSaid : Prop := buffersErrorsUptoRow.holds Try.pinned (OpenSpec.upto buffersErrorsSpec)

end Rows
end Go.Proofs.Ytdkinfglpnajmaa
