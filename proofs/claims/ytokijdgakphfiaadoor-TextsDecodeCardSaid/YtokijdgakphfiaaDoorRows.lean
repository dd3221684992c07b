/-
  NARROWER THAN 'FOR EVERY INPUT', by the rows' own cells (each row's printed sentence says how): TextsBack: laid · TextsBytes: laid · TextsDecode: laid · TextsCut: laid · TextsTogether: laid · TextsAnswer: laid · TextsLanguages: laid.
  DERIVED. THE GIVEN ROWS OF THIS SEAT. 7 by the template 'for every input the law returns true; each argument reads behind the call as it read before'; 0 by the template 'total and deterministic' (their statements: YtokijdgakphfiaaDoorTotals.lean).
  GIVEN WITH THE SEED: the statements are not yours to turn. If you find one false, say at which input.
  Laid BY PROGRAM, IN A SANDBOX (cutbox-rows.mjs): the forced cells as the released guide's own fill.sh prints them over the translation e366311477c502a5… (all of the seat's roots in one cut). By AI agents, Wed Nov 11 2026. No macro, syntax, notation, axiom, sorry.
-/
import Derived.Test.YtokijdgakphfiaaDoorChecked
import GoSem.PinnedTables
import GoSem.Claim
import GoSem.ClaimJoined
import GoSem.ClaimMapViews
import Derived.JoinedTies
import Derived.KernelRfl
namespace Go.Proofs.YtokijdgakphfiaaDoor
/- THE CELL 'sum', in the pinned program and in every row, IS THE sha256 OF THE DUMP (.gsa) THAT YtokijdgakphfiaaDoorProg.lean LOADS. Nothing in Lean hashes anything: it is a label: what it is worth is what the hold of that sum in a sandbox is worth. -/
noncomputable def Tryd.pinned : Pinned := { name := "ytokijdgakphfiaadoor", sum := "e366311477c502a5dc55e700e5c199cc651f09b1d89c74f17b46033449d46590", checked := Tryd.checked }
namespace Rows
def none {H : Type} : Left H := { results := [], args := [] }

/- WHAT THE LISTED PACKAGE-LEVEL VARIABLES READ AS WHEN THE CALL BEGINS. Each datum BY PROGRAM (the guide's laid-datum.mjs) off the statement by which the dump's own 'gosem.cut.vars' lays the variable. In a bare row this is a premise. The card (YtokijdgakphfiaaDoorCards.lean) ties it to the program's text. -/
def laid_unicode_utf8_acceptRanges {H : Type} : DataW H := .agg [.agg [.lit (.int .u8 128), .lit (.int .u8 191)], .agg [.lit (.int .u8 160), .lit (.int .u8 191)], .agg [.lit (.int .u8 128), .lit (.int .u8 159)], .agg [.lit (.int .u8 144), .lit (.int .u8 191)], .agg [.lit (.int .u8 128), .lit (.int .u8 143)], .agg [.lit (.int .u8 0), .lit (.int .u8 0)], .agg [.lit (.int .u8 0), .lit (.int .u8 0)], .agg [.lit (.int .u8 0), .lit (.int .u8 0)], .agg [.lit (.int .u8 0), .lit (.int .u8 0)], .agg [.lit (.int .u8 0), .lit (.int .u8 0)], .agg [.lit (.int .u8 0), .lit (.int .u8 0)], .agg [.lit (.int .u8 0), .lit (.int .u8 0)], .agg [.lit (.int .u8 0), .lit (.int .u8 0)], .agg [.lit (.int .u8 0), .lit (.int .u8 0)], .agg [.lit (.int .u8 0), .lit (.int .u8 0)], .agg [.lit (.int .u8 0), .lit (.int .u8 0)]]
/-- One of Go's own tables, pinned by name: the form's constant. -/
def laid_unicode_utf8_first : DataW Unit := Go.Pinned.utf8First

/-- 'plugboardlaw14.TextsBack': WHATEVER THE INPUT: true; the input reads as it did. -/
def textsBackSpec : ChangeSpec := { name := "textsBack", fn := fun _ => fun
  | [d] => { results := [.lit (.bool true)], args := [d] }
  | _ => none }
def textsBackRow : OpenClaim := { program := "ytokijdgakphfiaadoor", sum := "e366311477c502a5dc55e700e5c199cc651f09b1d89c74f17b46033449d46590", func := "plugboard/plugboardlaw14.TextsBack", spec := "textsBack", unfollowed := true, recurses := true, named := ["unicode/utf8.first", "unicode/utf8.acceptRanges"], apart := false, laid := [("unicode/utf8.acceptRanges", laid_unicode_utf8_acceptRanges), ("unicode/utf8.first", laid_unicode_utf8_first)] }
def TextsBackSaid : Prop := textsBackRow.holds Tryd.pinned (OpenSpec.ofChange textsBackSpec)

/-- ITS FALSE NEIGHBOUR: 'it returns false'. Refute it at one input. -/
def textsBackWrong : ChangeSpec := { name := "textsBack", fn := fun _ => fun
  | [d] => { results := [.lit (.bool false)], args := [d] }
  | _ => none }
def TextsBackWrongFalsely : Prop := textsBackRow.holds Tryd.pinned (OpenSpec.ofChange textsBackWrong)

/-- 'plugboardlaw14.TextsBytes': WHATEVER THE INPUT: true; the input reads as it did. -/
def textsBytesSpec : ChangeSpec := { name := "textsBytes", fn := fun _ => fun
  | [d] => { results := [.lit (.bool true)], args := [d] }
  | _ => none }
def textsBytesRow : OpenClaim := { program := "ytokijdgakphfiaadoor", sum := "e366311477c502a5dc55e700e5c199cc651f09b1d89c74f17b46033449d46590", func := "plugboard/plugboardlaw14.TextsBytes", spec := "textsBytes", unfollowed := true, recurses := true, named := ["unicode/utf8.first", "unicode/utf8.acceptRanges"], apart := false, laid := [("unicode/utf8.acceptRanges", laid_unicode_utf8_acceptRanges), ("unicode/utf8.first", laid_unicode_utf8_first)] }
def TextsBytesSaid : Prop := textsBytesRow.holds Tryd.pinned (OpenSpec.ofChange textsBytesSpec)

/-- ITS FALSE NEIGHBOUR: 'it returns false'. Refute it at one input. -/
def textsBytesWrong : ChangeSpec := { name := "textsBytes", fn := fun _ => fun
  | [d] => { results := [.lit (.bool false)], args := [d] }
  | _ => none }
def TextsBytesWrongFalsely : Prop := textsBytesRow.holds Tryd.pinned (OpenSpec.ofChange textsBytesWrong)

/-- 'plugboardlaw14.TextsDecode': WHATEVER THE INPUT: true; the input reads as it did. -/
def textsDecodeSpec : ChangeSpec := { name := "textsDecode", fn := fun _ => fun
  | [d1, d2] => { results := [.lit (.bool true)], args := [d1, d2] }
  | _ => none }
def textsDecodeRow : OpenClaim := { program := "ytokijdgakphfiaadoor", sum := "e366311477c502a5dc55e700e5c199cc651f09b1d89c74f17b46033449d46590", func := "plugboard/plugboardlaw14.TextsDecode", spec := "textsDecode", unfollowed := true, recurses := true, named := ["unicode/utf8.first", "unicode/utf8.acceptRanges"], apart := false, laid := [("unicode/utf8.acceptRanges", laid_unicode_utf8_acceptRanges), ("unicode/utf8.first", laid_unicode_utf8_first)] }
def TextsDecodeSaid : Prop := textsDecodeRow.holds Tryd.pinned (OpenSpec.ofChange textsDecodeSpec)

/-- ITS FALSE NEIGHBOUR: 'it returns false'. Refute it at one input. -/
def textsDecodeWrong : ChangeSpec := { name := "textsDecode", fn := fun _ => fun
  | [d1, d2] => { results := [.lit (.bool false)], args := [d1, d2] }
  | _ => none }
def TextsDecodeWrongFalsely : Prop := textsDecodeRow.holds Tryd.pinned (OpenSpec.ofChange textsDecodeWrong)

/-- 'plugboardlaw14.TextsCut': WHATEVER THE INPUT: true; the input reads as it did. -/
def textsCutSpec : ChangeSpec := { name := "textsCut", fn := fun _ => fun
  | [d1, d2] => { results := [.lit (.bool true)], args := [d1, d2] }
  | _ => none }
def textsCutRow : OpenClaim := { program := "ytokijdgakphfiaadoor", sum := "e366311477c502a5dc55e700e5c199cc651f09b1d89c74f17b46033449d46590", func := "plugboard/plugboardlaw14.TextsCut", spec := "textsCut", unfollowed := true, recurses := true, named := ["unicode/utf8.first", "unicode/utf8.acceptRanges"], apart := false, laid := [("unicode/utf8.acceptRanges", laid_unicode_utf8_acceptRanges), ("unicode/utf8.first", laid_unicode_utf8_first)] }
def TextsCutSaid : Prop := textsCutRow.holds Tryd.pinned (OpenSpec.ofChange textsCutSpec)

/-- ITS FALSE NEIGHBOUR: 'it returns false'. Refute it at one input. -/
def textsCutWrong : ChangeSpec := { name := "textsCut", fn := fun _ => fun
  | [d1, d2] => { results := [.lit (.bool false)], args := [d1, d2] }
  | _ => none }
def TextsCutWrongFalsely : Prop := textsCutRow.holds Tryd.pinned (OpenSpec.ofChange textsCutWrong)

/-- 'plugboardlaw14.TextsTogether': WHATEVER THE INPUT: true; the input reads as it did. -/
def textsTogetherSpec : ChangeSpec := { name := "textsTogether", fn := fun _ => fun
  | [d1, d2] => { results := [.lit (.bool true)], args := [d1, d2] }
  | _ => none }
def textsTogetherRow : OpenClaim := { program := "ytokijdgakphfiaadoor", sum := "e366311477c502a5dc55e700e5c199cc651f09b1d89c74f17b46033449d46590", func := "plugboard/plugboardlaw14.TextsTogether", spec := "textsTogether", unfollowed := true, recurses := true, named := ["unicode/utf8.first", "unicode/utf8.acceptRanges"], apart := false, laid := [("unicode/utf8.acceptRanges", laid_unicode_utf8_acceptRanges), ("unicode/utf8.first", laid_unicode_utf8_first)] }
def TextsTogetherSaid : Prop := textsTogetherRow.holds Tryd.pinned (OpenSpec.ofChange textsTogetherSpec)

/-- ITS FALSE NEIGHBOUR: 'it returns false'. Refute it at one input. -/
def textsTogetherWrong : ChangeSpec := { name := "textsTogether", fn := fun _ => fun
  | [d1, d2] => { results := [.lit (.bool false)], args := [d1, d2] }
  | _ => none }
def TextsTogetherWrongFalsely : Prop := textsTogetherRow.holds Tryd.pinned (OpenSpec.ofChange textsTogetherWrong)

/-- 'plugboardlaw14.TextsAnswer': WHATEVER THE INPUT: true; the input reads as it did. -/
def textsAnswerSpec : ChangeSpec := { name := "textsAnswer", fn := fun _ => fun
  | [d1, d2, d3] => { results := [.lit (.bool true)], args := [d1, d2, d3] }
  | _ => none }
def textsAnswerRow : OpenClaim := { program := "ytokijdgakphfiaadoor", sum := "e366311477c502a5dc55e700e5c199cc651f09b1d89c74f17b46033449d46590", func := "plugboard/plugboardlaw14.TextsAnswer", spec := "textsAnswer", unfollowed := true, recurses := true, named := ["unicode/utf8.first", "unicode/utf8.acceptRanges"], apart := false, laid := [("unicode/utf8.acceptRanges", laid_unicode_utf8_acceptRanges), ("unicode/utf8.first", laid_unicode_utf8_first)] }
def TextsAnswerSaid : Prop := textsAnswerRow.holds Tryd.pinned (OpenSpec.ofChange textsAnswerSpec)

/-- ITS FALSE NEIGHBOUR: 'it returns false'. Refute it at one input. -/
def textsAnswerWrong : ChangeSpec := { name := "textsAnswer", fn := fun _ => fun
  | [d1, d2, d3] => { results := [.lit (.bool false)], args := [d1, d2, d3] }
  | _ => none }
def TextsAnswerWrongFalsely : Prop := textsAnswerRow.holds Tryd.pinned (OpenSpec.ofChange textsAnswerWrong)

/-- 'plugboardlaw14.TextsLanguages': WHATEVER THE INPUT: true; the input reads as it did. -/
def textsLanguagesSpec : ChangeSpec := { name := "textsLanguages", fn := fun _ => fun
  | [d1, d2] => { results := [.lit (.bool true)], args := [d1, d2] }
  | _ => none }
def textsLanguagesRow : OpenClaim := { program := "ytokijdgakphfiaadoor", sum := "e366311477c502a5dc55e700e5c199cc651f09b1d89c74f17b46033449d46590", func := "plugboard/plugboardlaw14.TextsLanguages", spec := "textsLanguages", unfollowed := true, recurses := true, named := ["unicode/utf8.first", "unicode/utf8.acceptRanges"], apart := false, laid := [("unicode/utf8.acceptRanges", laid_unicode_utf8_acceptRanges), ("unicode/utf8.first", laid_unicode_utf8_first)] }
def TextsLanguagesSaid : Prop := textsLanguagesRow.holds Tryd.pinned (OpenSpec.ofChange textsLanguagesSpec)

/-- ITS FALSE NEIGHBOUR: 'it returns false'. Refute it at one input. -/
def textsLanguagesWrong : ChangeSpec := { name := "textsLanguages", fn := fun _ => fun
  | [d1, d2] => { results := [.lit (.bool false)], args := [d1, d2] }
  | _ => none }
def TextsLanguagesWrongFalsely : Prop := textsLanguagesRow.holds Tryd.pinned (OpenSpec.ofChange textsLanguagesWrong)

/- THE SECOND FORM. 'bulk': how many values and letters a reading holds, each counted each time it is reached (what is shared counts as often as it is met; a slice's spare places count too). A statement '..UptoSaid' is the law's where the arguments, and the package variables that the reading takes, are together of bulk at most 1048576: NARROWER than '..Said'. Prove '..Said' where nothing that the law and all that it calls make is longer than what came in: it says more and counts as full. Else prove '..UptoSaid'. A law counts once. -/
mutual
def uptoBulk {H : Type} : DataW H → Nat
  | .lit (.string bytes) => bytes.length + 1
  | .lit _ => 1
  | .nil => 1
  | .ptr d => uptoBulk d + 1
  | .slice elems spare => uptoBulkAll elems + uptoBulkAll spare + 1
  | .agg parts => uptoBulkAll parts + 1
  | .iface _ d => uptoBulk d + 1
  | .map entries => uptoBulkEntries entries + 1
  | .held _ => 1
def uptoBulkAll {H : Type} : List (DataW H) → Nat
  | [] => 0
  | d :: r => uptoBulk d + uptoBulkAll r
def uptoBulkEntries {H : Type} : List (Lit × DataW H) → Nat
  | [] => 0
  | x :: r => uptoBulkEntry x + uptoBulkEntries r
def uptoBulkEntry {H : Type} : Lit × DataW H → Nat
  | (.string bytes, d) => bytes.length + uptoBulk d + 1
  | (_, d) => uptoBulk d + 1
 end
def uptoSmall : (H : Type) → List (DataW H) → Bool := fun _ ds => decide (uptoBulkAll ds ≤ 1048576)
def OpenSpec.upto (s : _root_.Go.ChangeSpec) : _root_.Go.OpenSpec := { _root_.Go.OpenSpec.ofChange s with cond := some uptoSmall }

/-- 'plugboardlaw14.TextsBack', WHERE WHAT IT READS IS OF BULK AT MOST 1048576: true; the input reads as it did. -/
def textsBackUptoRow : OpenClaim := { program := "ytokijdgakphfiaadoor", sum := "e366311477c502a5dc55e700e5c199cc651f09b1d89c74f17b46033449d46590", func := "plugboard/plugboardlaw14.TextsBack", spec := "textsBack", unfollowed := true, recurses := true, named := ["unicode/utf8.first", "unicode/utf8.acceptRanges"], apart := false, laid := [("unicode/utf8.acceptRanges", laid_unicode_utf8_acceptRanges), ("unicode/utf8.first", laid_unicode_utf8_first)], narrowed := true }
def TextsBackUptoSaid : Prop := textsBackUptoRow.holds Tryd.pinned (OpenSpec.upto textsBackSpec)

/-- 'plugboardlaw14.TextsBytes', WHERE WHAT IT READS IS OF BULK AT MOST 1048576: true; the input reads as it did. -/
def textsBytesUptoRow : OpenClaim := { program := "ytokijdgakphfiaadoor", sum := "e366311477c502a5dc55e700e5c199cc651f09b1d89c74f17b46033449d46590", func := "plugboard/plugboardlaw14.TextsBytes", spec := "textsBytes", unfollowed := true, recurses := true, named := ["unicode/utf8.first", "unicode/utf8.acceptRanges"], apart := false, laid := [("unicode/utf8.acceptRanges", laid_unicode_utf8_acceptRanges), ("unicode/utf8.first", laid_unicode_utf8_first)], narrowed := true }
def TextsBytesUptoSaid : Prop := textsBytesUptoRow.holds Tryd.pinned (OpenSpec.upto textsBytesSpec)

/-- 'plugboardlaw14.TextsDecode', WHERE WHAT IT READS IS OF BULK AT MOST 1048576: true; the input reads as it did. -/
def textsDecodeUptoRow : OpenClaim := { program := "ytokijdgakphfiaadoor", sum := "e366311477c502a5dc55e700e5c199cc651f09b1d89c74f17b46033449d46590", func := "plugboard/plugboardlaw14.TextsDecode", spec := "textsDecode", unfollowed := true, recurses := true, named := ["unicode/utf8.first", "unicode/utf8.acceptRanges"], apart := false, laid := [("unicode/utf8.acceptRanges", laid_unicode_utf8_acceptRanges), ("unicode/utf8.first", laid_unicode_utf8_first)], narrowed := true }
def TextsDecodeUptoSaid : Prop := textsDecodeUptoRow.holds Tryd.pinned (OpenSpec.upto textsDecodeSpec)

/-- 'plugboardlaw14.TextsCut', WHERE WHAT IT READS IS OF BULK AT MOST 1048576: true; the input reads as it did. -/
def textsCutUptoRow : OpenClaim := { program := "ytokijdgakphfiaadoor", sum := "e366311477c502a5dc55e700e5c199cc651f09b1d89c74f17b46033449d46590", func := "plugboard/plugboardlaw14.TextsCut", spec := "textsCut", unfollowed := true, recurses := true, named := ["unicode/utf8.first", "unicode/utf8.acceptRanges"], apart := false, laid := [("unicode/utf8.acceptRanges", laid_unicode_utf8_acceptRanges), ("unicode/utf8.first", laid_unicode_utf8_first)], narrowed := true }
def TextsCutUptoSaid : Prop := textsCutUptoRow.holds Tryd.pinned (OpenSpec.upto textsCutSpec)

/-- 'plugboardlaw14.TextsTogether', WHERE WHAT IT READS IS OF BULK AT MOST 1048576: true; the input reads as it did. -/
def textsTogetherUptoRow : OpenClaim := { program := "ytokijdgakphfiaadoor", sum := "e366311477c502a5dc55e700e5c199cc651f09b1d89c74f17b46033449d46590", func := "plugboard/plugboardlaw14.TextsTogether", spec := "textsTogether", unfollowed := true, recurses := true, named := ["unicode/utf8.first", "unicode/utf8.acceptRanges"], apart := false, laid := [("unicode/utf8.acceptRanges", laid_unicode_utf8_acceptRanges), ("unicode/utf8.first", laid_unicode_utf8_first)], narrowed := true }
def TextsTogetherUptoSaid : Prop := textsTogetherUptoRow.holds Tryd.pinned (OpenSpec.upto textsTogetherSpec)

/-- 'plugboardlaw14.TextsAnswer', WHERE WHAT IT READS IS OF BULK AT MOST 1048576: true; the input reads as it did. -/
def textsAnswerUptoRow : OpenClaim := { program := "ytokijdgakphfiaadoor", sum := "e366311477c502a5dc55e700e5c199cc651f09b1d89c74f17b46033449d46590", func := "plugboard/plugboardlaw14.TextsAnswer", spec := "textsAnswer", unfollowed := true, recurses := true, named := ["unicode/utf8.first", "unicode/utf8.acceptRanges"], apart := false, laid := [("unicode/utf8.acceptRanges", laid_unicode_utf8_acceptRanges), ("unicode/utf8.first", laid_unicode_utf8_first)], narrowed := true }
def TextsAnswerUptoSaid : Prop := textsAnswerUptoRow.holds Tryd.pinned (OpenSpec.upto textsAnswerSpec)

/-- 'plugboardlaw14.TextsLanguages', WHERE WHAT IT READS IS OF BULK AT MOST 1048576: true; the input reads as it did. -/
def textsLanguagesUptoRow : OpenClaim := { program := "ytokijdgakphfiaadoor", sum := "e366311477c502a5dc55e700e5c199cc651f09b1d89c74f17b46033449d46590", func := "plugboard/plugboardlaw14.TextsLanguages", spec := "textsLanguages", unfollowed := true, recurses := true, named := ["unicode/utf8.first", "unicode/utf8.acceptRanges"], apart := false, laid := [("unicode/utf8.acceptRanges", laid_unicode_utf8_acceptRanges), ("unicode/utf8.first", laid_unicode_utf8_first)], narrowed := true }
def TextsLanguagesUptoSaid : Prop := textsLanguagesUptoRow.holds Tryd.pinned (OpenSpec.upto textsLanguagesSpec)

end Rows
end Go.Proofs.YtokijdgakphfiaaDoor
