/-
  NARROWER THAN 'FOR EVERY INPUT', by the rows' own cells (each row's printed sentence says how): CommandsMoves: laid · CommandsSense: laid · CommandsBack: laid · CommandsDecode: laid · CommandsInquiry: laid · CommandsKnown: laid.
  DERIVED. THE GIVEN ROWS OF THIS SEAT. 6 by the template 'for every input the law returns true; each argument reads behind the call as it read before'; 0 by the template 'total and deterministic' (their statements: YtfojemocffelhaaDoorTotals.lean).
  GIVEN WITH THE SEED: the statements are not yours to turn. If you find one false, say at which input.
  Laid BY PROGRAM, IN A SANDBOX (cutbox-rows.mjs): the forced cells as the released guide's own fill.sh prints them over the translation 8e16a8db8bd481b4… (all of the seat's roots in one cut). By AI agents, Wed Nov 11 2026. No macro, syntax, notation, axiom, sorry.
-/
import Derived.Test.YtfojemocffelhaaDoorChecked
import GoSem.PinnedTables
import GoSem.Claim
import GoSem.ClaimJoined
import GoSem.ClaimMapViews
import Derived.JoinedTies
import Derived.KernelRfl
namespace Go.Proofs.YtfojemocffelhaaDoor
/- THE CELL 'sum', in the pinned program and in every row, IS THE sha256 OF THE DUMP (.gsa) THAT YtfojemocffelhaaDoorProg.lean LOADS. Nothing in Lean hashes anything: it is a label: what it is worth is what the hold of that sum in a sandbox is worth. -/
noncomputable def Tryd.pinned : Pinned := { name := "ytfojemocffelhaadoor", sum := "8e16a8db8bd481b482679fbcbb82c2507439b796a161c4165362ee471c7d5771", checked := Tryd.checked }
namespace Rows
def none {H : Type} : Left H := { results := [], args := [] }

/- WHAT THE LISTED PACKAGE-LEVEL VARIABLES READ AS WHEN THE CALL BEGINS. Each datum BY PROGRAM (the guide's laid-datum.mjs) off the statement by which the dump's own 'gosem.cut.vars' lays the variable. In a bare row this is a premise. The card (YtfojemocffelhaaDoorCards.lean) ties it to the program's text. -/
def laid_math_bits_deBruijn32tab {H : Type} : DataW H := .agg [.lit (.int .u8 0), .lit (.int .u8 1), .lit (.int .u8 28), .lit (.int .u8 2), .lit (.int .u8 29), .lit (.int .u8 14), .lit (.int .u8 24), .lit (.int .u8 3), .lit (.int .u8 30), .lit (.int .u8 22), .lit (.int .u8 20), .lit (.int .u8 15), .lit (.int .u8 25), .lit (.int .u8 17), .lit (.int .u8 4), .lit (.int .u8 8), .lit (.int .u8 31), .lit (.int .u8 27), .lit (.int .u8 13), .lit (.int .u8 23), .lit (.int .u8 21), .lit (.int .u8 19), .lit (.int .u8 16), .lit (.int .u8 7), .lit (.int .u8 26), .lit (.int .u8 12), .lit (.int .u8 18), .lit (.int .u8 6), .lit (.int .u8 11), .lit (.int .u8 5), .lit (.int .u8 10), .lit (.int .u8 9)]
def laid_math_bits_deBruijn64tab {H : Type} : DataW H := .agg [.lit (.int .u8 0), .lit (.int .u8 1), .lit (.int .u8 56), .lit (.int .u8 2), .lit (.int .u8 57), .lit (.int .u8 49), .lit (.int .u8 28), .lit (.int .u8 3), .lit (.int .u8 61), .lit (.int .u8 58), .lit (.int .u8 42), .lit (.int .u8 50), .lit (.int .u8 38), .lit (.int .u8 29), .lit (.int .u8 17), .lit (.int .u8 4), .lit (.int .u8 62), .lit (.int .u8 47), .lit (.int .u8 59), .lit (.int .u8 36), .lit (.int .u8 45), .lit (.int .u8 43), .lit (.int .u8 51), .lit (.int .u8 22), .lit (.int .u8 53), .lit (.int .u8 39), .lit (.int .u8 33), .lit (.int .u8 30), .lit (.int .u8 24), .lit (.int .u8 18), .lit (.int .u8 12), .lit (.int .u8 5), .lit (.int .u8 63), .lit (.int .u8 55), .lit (.int .u8 48), .lit (.int .u8 27), .lit (.int .u8 60), .lit (.int .u8 41), .lit (.int .u8 37), .lit (.int .u8 16), .lit (.int .u8 46), .lit (.int .u8 35), .lit (.int .u8 44), .lit (.int .u8 21), .lit (.int .u8 52), .lit (.int .u8 32), .lit (.int .u8 23), .lit (.int .u8 11), .lit (.int .u8 54), .lit (.int .u8 26), .lit (.int .u8 40), .lit (.int .u8 15), .lit (.int .u8 34), .lit (.int .u8 20), .lit (.int .u8 31), .lit (.int .u8 10), .lit (.int .u8 25), .lit (.int .u8 14), .lit (.int .u8 19), .lit (.int .u8 9), .lit (.int .u8 13), .lit (.int .u8 8), .lit (.int .u8 7), .lit (.int .u8 6)]
def laid_internal_strconv_uint64pow10 {H : Type} : DataW H := .agg [.lit (.int .u64 1), .lit (.int .u64 10), .lit (.int .u64 100), .lit (.int .u64 1000), .lit (.int .u64 10000), .lit (.int .u64 100000), .lit (.int .u64 1000000), .lit (.int .u64 10000000), .lit (.int .u64 100000000), .lit (.int .u64 1000000000), .lit (.int .u64 10000000000), .lit (.int .u64 100000000000), .lit (.int .u64 1000000000000), .lit (.int .u64 10000000000000), .lit (.int .u64 100000000000000), .lit (.int .u64 1000000000000000), .lit (.int .u64 10000000000000000), .lit (.int .u64 100000000000000000), .lit (.int .u64 1000000000000000000), .lit (.int .u64 10000000000000000000)]
def laid_plugboard_commands_forms {H : Type} : DataW H := .agg [.agg [.lit (.int .u8 0), .lit (.string [82, 69, 65, 68, 89]), .lit (.int .i64 6), .lit (.bool false), .lit (.bool false), .lit (.int .u8 0)], .agg [.lit (.int .u8 3), .lit (.string [65, 83, 75]), .lit (.int .i64 6), .lit (.bool true), .lit (.bool false), .lit (.int .u8 1)], .agg [.lit (.int .u8 18), .lit (.string [73, 68, 69, 78, 84, 73, 70, 89]), .lit (.int .i64 6), .lit (.bool true), .lit (.bool false), .lit (.int .u8 1)], .agg [.lit (.int .u8 37), .lit (.string [83, 73, 90, 69]), .lit (.int .i64 10), .lit (.bool false), .lit (.bool false), .lit (.int .u8 1)], .agg [.lit (.int .u8 40), .lit (.string [82, 69, 65, 68]), .lit (.int .i64 10), .lit (.bool false), .lit (.bool true), .lit (.int .u8 1)], .agg [.lit (.int .u8 42), .lit (.string [87, 82, 73, 84, 69]), .lit (.int .i64 10), .lit (.bool false), .lit (.bool true), .lit (.int .u8 2)], .agg [.lit (.int .u8 53), .lit (.string [83, 89, 78, 67, 72, 82, 79, 78, 73, 90, 69]), .lit (.int .i64 10), .lit (.bool false), .lit (.bool true), .lit (.int .u8 0)]]
def laid_unicode_utf8_acceptRanges {H : Type} : DataW H := .agg [.agg [.lit (.int .u8 128), .lit (.int .u8 191)], .agg [.lit (.int .u8 160), .lit (.int .u8 191)], .agg [.lit (.int .u8 128), .lit (.int .u8 159)], .agg [.lit (.int .u8 144), .lit (.int .u8 191)], .agg [.lit (.int .u8 128), .lit (.int .u8 143)], .agg [.lit (.int .u8 0), .lit (.int .u8 0)], .agg [.lit (.int .u8 0), .lit (.int .u8 0)], .agg [.lit (.int .u8 0), .lit (.int .u8 0)], .agg [.lit (.int .u8 0), .lit (.int .u8 0)], .agg [.lit (.int .u8 0), .lit (.int .u8 0)], .agg [.lit (.int .u8 0), .lit (.int .u8 0)], .agg [.lit (.int .u8 0), .lit (.int .u8 0)], .agg [.lit (.int .u8 0), .lit (.int .u8 0)], .agg [.lit (.int .u8 0), .lit (.int .u8 0)], .agg [.lit (.int .u8 0), .lit (.int .u8 0)], .agg [.lit (.int .u8 0), .lit (.int .u8 0)]]
/-- One of Go's own tables, pinned by name: the form's constant. -/
def laid_unicode_utf8_first : DataW Unit := Go.Pinned.utf8First

/-- 'plugboardlaw37.CommandsMoves': WHATEVER THE INPUT: true; the input reads as it did. -/
def commandsMovesSpec : ChangeSpec := { name := "commandsMoves", fn := fun _ => fun
  | [d1, d2] => { results := [.lit (.bool true)], args := [d1, d2] }
  | _ => none }
def commandsMovesRow : OpenClaim := { program := "ytfojemocffelhaadoor", sum := "8e16a8db8bd481b482679fbcbb82c2507439b796a161c4165362ee471c7d5771", func := "plugboard/plugboardlaw37.CommandsMoves", spec := "commandsMoves", unfollowed := true, recurses := true, named := ["plugboard/commands.forms", "internal/strconv.uint64pow10", "math/bits.deBruijn32tab", "math/bits.deBruijn64tab"], apart := false, laid := [("math/bits.deBruijn32tab", laid_math_bits_deBruijn32tab), ("math/bits.deBruijn64tab", laid_math_bits_deBruijn64tab), ("internal/strconv.uint64pow10", laid_internal_strconv_uint64pow10), ("plugboard/commands.forms", laid_plugboard_commands_forms)] }
def CommandsMovesSaid : Prop := commandsMovesRow.holds Tryd.pinned (OpenSpec.ofChange commandsMovesSpec)

/-- ITS FALSE NEIGHBOUR: 'it returns false'. Refute it at one input. -/
def commandsMovesWrong : ChangeSpec := { name := "commandsMoves", fn := fun _ => fun
  | [d1, d2] => { results := [.lit (.bool false)], args := [d1, d2] }
  | _ => none }
def CommandsMovesWrongFalsely : Prop := commandsMovesRow.holds Tryd.pinned (OpenSpec.ofChange commandsMovesWrong)

/-- 'plugboardlaw37.CommandsSense': WHATEVER THE INPUT: true; the input reads as it did. -/
def commandsSenseSpec : ChangeSpec := { name := "commandsSense", fn := fun _ => fun
  | [d1, d2] => { results := [.lit (.bool true)], args := [d1, d2] }
  | _ => none }
def commandsSenseRow : OpenClaim := { program := "ytfojemocffelhaadoor", sum := "8e16a8db8bd481b482679fbcbb82c2507439b796a161c4165362ee471c7d5771", func := "plugboard/plugboardlaw37.CommandsSense", spec := "commandsSense", unfollowed := true, recurses := true, named := ["plugboard/commands.forms", "internal/strconv.uint64pow10", "math/bits.deBruijn32tab", "math/bits.deBruijn64tab"], apart := false, laid := [("math/bits.deBruijn32tab", laid_math_bits_deBruijn32tab), ("math/bits.deBruijn64tab", laid_math_bits_deBruijn64tab), ("internal/strconv.uint64pow10", laid_internal_strconv_uint64pow10), ("plugboard/commands.forms", laid_plugboard_commands_forms)] }
def CommandsSenseSaid : Prop := commandsSenseRow.holds Tryd.pinned (OpenSpec.ofChange commandsSenseSpec)

/-- ITS FALSE NEIGHBOUR: 'it returns false'. Refute it at one input. -/
def commandsSenseWrong : ChangeSpec := { name := "commandsSense", fn := fun _ => fun
  | [d1, d2] => { results := [.lit (.bool false)], args := [d1, d2] }
  | _ => none }
def CommandsSenseWrongFalsely : Prop := commandsSenseRow.holds Tryd.pinned (OpenSpec.ofChange commandsSenseWrong)

/-- 'plugboardlaw37.CommandsBack': WHATEVER THE INPUT: true; the input reads as it did. -/
def commandsBackSpec : ChangeSpec := { name := "commandsBack", fn := fun _ => fun
  | [d1, d2, d3] => { results := [.lit (.bool true)], args := [d1, d2, d3] }
  | _ => none }
def commandsBackRow : OpenClaim := { program := "ytfojemocffelhaadoor", sum := "8e16a8db8bd481b482679fbcbb82c2507439b796a161c4165362ee471c7d5771", func := "plugboard/plugboardlaw37.CommandsBack", spec := "commandsBack", inPlace := ["internal/bytealg.IndexByteString", "internal/bytealg.IndexString"], unfollowed := true, recurses := true, named := ["plugboard/commands.forms", "unicode/utf8.first", "unicode/utf8.acceptRanges", "internal/strconv.uint64pow10", "math/bits.deBruijn32tab", "math/bits.deBruijn64tab", "internal/bytealg.MaxLen"], apart := false, laid := [("math/bits.deBruijn32tab", laid_math_bits_deBruijn32tab), ("math/bits.deBruijn64tab", laid_math_bits_deBruijn64tab), ("internal/strconv.uint64pow10", laid_internal_strconv_uint64pow10), ("unicode/utf8.acceptRanges", laid_unicode_utf8_acceptRanges), ("plugboard/commands.forms", laid_plugboard_commands_forms), ("unicode/utf8.first", laid_unicode_utf8_first)] }
def CommandsBackSaid : Prop := commandsBackRow.holds Tryd.pinned (OpenSpec.ofChange commandsBackSpec)

/-- ITS FALSE NEIGHBOUR: 'it returns false'. Refute it at one input. -/
def commandsBackWrong : ChangeSpec := { name := "commandsBack", fn := fun _ => fun
  | [d1, d2, d3] => { results := [.lit (.bool false)], args := [d1, d2, d3] }
  | _ => none }
def CommandsBackWrongFalsely : Prop := commandsBackRow.holds Tryd.pinned (OpenSpec.ofChange commandsBackWrong)

/-- 'plugboardlaw37.CommandsDecode': WHATEVER THE INPUT: true; the input reads as it did. -/
def commandsDecodeSpec : ChangeSpec := { name := "commandsDecode", fn := fun _ => fun
  | [d] => { results := [.lit (.bool true)], args := [d] }
  | _ => none }
def commandsDecodeRow : OpenClaim := { program := "ytfojemocffelhaadoor", sum := "8e16a8db8bd481b482679fbcbb82c2507439b796a161c4165362ee471c7d5771", func := "plugboard/plugboardlaw37.CommandsDecode", spec := "commandsDecode", inPlace := ["internal/bytealg.IndexByteString", "internal/bytealg.IndexString"], unfollowed := true, recurses := true, named := ["plugboard/commands.forms", "internal/strconv.uint64pow10", "math/bits.deBruijn32tab", "math/bits.deBruijn64tab", "unicode/utf8.first", "unicode/utf8.acceptRanges", "internal/bytealg.MaxLen"], apart := false, laid := [("math/bits.deBruijn32tab", laid_math_bits_deBruijn32tab), ("math/bits.deBruijn64tab", laid_math_bits_deBruijn64tab), ("internal/strconv.uint64pow10", laid_internal_strconv_uint64pow10), ("unicode/utf8.acceptRanges", laid_unicode_utf8_acceptRanges), ("plugboard/commands.forms", laid_plugboard_commands_forms), ("unicode/utf8.first", laid_unicode_utf8_first)] }
def CommandsDecodeSaid : Prop := commandsDecodeRow.holds Tryd.pinned (OpenSpec.ofChange commandsDecodeSpec)

/-- ITS FALSE NEIGHBOUR: 'it returns false'. Refute it at one input. -/
def commandsDecodeWrong : ChangeSpec := { name := "commandsDecode", fn := fun _ => fun
  | [d] => { results := [.lit (.bool false)], args := [d] }
  | _ => none }
def CommandsDecodeWrongFalsely : Prop := commandsDecodeRow.holds Tryd.pinned (OpenSpec.ofChange commandsDecodeWrong)

/-- 'plugboardlaw37.CommandsInquiry': WHATEVER THE INPUT: true; the input reads as it did. -/
def commandsInquirySpec : ChangeSpec := { name := "commandsInquiry", fn := fun _ => fun
  | [d1, d2, d3] => { results := [.lit (.bool true)], args := [d1, d2, d3] }
  | _ => none }
def commandsInquiryRow : OpenClaim := { program := "ytfojemocffelhaadoor", sum := "8e16a8db8bd481b482679fbcbb82c2507439b796a161c4165362ee471c7d5771", func := "plugboard/plugboardlaw37.CommandsInquiry", spec := "commandsInquiry", inPlace := ["internal/abi.NoEscape", "internal/bytealg.MakeNoZero", "internal/bytealg.IndexByteString", "internal/bytealg.IndexString"], unfollowed := true, recurses := true, named := ["plugboard/commands.forms", "internal/strconv.uint64pow10", "math/bits.deBruijn32tab", "math/bits.deBruijn64tab", "unicode/utf8.first", "unicode/utf8.acceptRanges", "internal/bytealg.MaxLen"], apart := false, laid := [("math/bits.deBruijn32tab", laid_math_bits_deBruijn32tab), ("math/bits.deBruijn64tab", laid_math_bits_deBruijn64tab), ("internal/strconv.uint64pow10", laid_internal_strconv_uint64pow10), ("unicode/utf8.acceptRanges", laid_unicode_utf8_acceptRanges), ("plugboard/commands.forms", laid_plugboard_commands_forms), ("unicode/utf8.first", laid_unicode_utf8_first)] }
def CommandsInquirySaid : Prop := commandsInquiryRow.holds Tryd.pinned (OpenSpec.ofChange commandsInquirySpec)

/-- ITS FALSE NEIGHBOUR: 'it returns false'. Refute it at one input. -/
def commandsInquiryWrong : ChangeSpec := { name := "commandsInquiry", fn := fun _ => fun
  | [d1, d2, d3] => { results := [.lit (.bool false)], args := [d1, d2, d3] }
  | _ => none }
def CommandsInquiryWrongFalsely : Prop := commandsInquiryRow.holds Tryd.pinned (OpenSpec.ofChange commandsInquiryWrong)

/-- 'plugboardlaw37.CommandsKnown': WHATEVER THE INPUT: true; the input reads as it did. -/
def commandsKnownSpec : ChangeSpec := { name := "commandsKnown", fn := fun _ => fun
  | [] => { results := [.lit (.bool true)], args := [] }
  | _ => none }
def commandsKnownRow : OpenClaim := { program := "ytfojemocffelhaadoor", sum := "8e16a8db8bd481b482679fbcbb82c2507439b796a161c4165362ee471c7d5771", func := "plugboard/plugboardlaw37.CommandsKnown", spec := "commandsKnown", inPlace := ["internal/bytealg.IndexByteString", "internal/bytealg.IndexString", "internal/abi.NoEscape", "internal/bytealg.MakeNoZero"], unfollowed := true, recurses := true, named := ["plugboard/commands.forms", "unicode/utf8.first", "unicode/utf8.acceptRanges", "internal/strconv.uint64pow10", "math/bits.deBruijn32tab", "math/bits.deBruijn64tab", "internal/bytealg.MaxLen"], apart := false, laid := [("math/bits.deBruijn32tab", laid_math_bits_deBruijn32tab), ("math/bits.deBruijn64tab", laid_math_bits_deBruijn64tab), ("internal/strconv.uint64pow10", laid_internal_strconv_uint64pow10), ("unicode/utf8.acceptRanges", laid_unicode_utf8_acceptRanges), ("plugboard/commands.forms", laid_plugboard_commands_forms), ("unicode/utf8.first", laid_unicode_utf8_first)] }
def CommandsKnownSaid : Prop := commandsKnownRow.holds Tryd.pinned (OpenSpec.ofChange commandsKnownSpec)

/-- ITS FALSE NEIGHBOUR: 'it returns false'. Refute it at one input. -/
def commandsKnownWrong : ChangeSpec := { name := "commandsKnown", fn := fun _ => fun
  | [] => { results := [.lit (.bool false)], args := [] }
  | _ => none }
def CommandsKnownWrongFalsely : Prop := commandsKnownRow.holds Tryd.pinned (OpenSpec.ofChange commandsKnownWrong)

/- THE SECOND FORM. 'bulk': how many values and letters a reading holds, each counted each time it is reached (what is shared counts as often as it is met; a slice's spare places count too). A statement '..UptoSaid' is the law's where the arguments, and the package variables that the reading takes, are together of bulk at most 1048576: NARROWER than '..Said'. Prove '..Said' where nothing that the law and all that it calls make is longer than what came in: it says more and counts as full. Else prove '..UptoSaid'. A law counts once. -/
mutual
def uptoBulk {H : Type} : DataW H → Nat
  | .lit (.string bytes) => bytes.length + 1
  | .lit _ => 1
  | .nil => 1
  | .ptr d => uptoBulk d + 1
  | .slice elems spare => uptoBulkAll elems + uptoBulkAll spare + 1
  | .agg parts => uptoBulkAll parts + 1
  | .iface _ d => uptoBulk d + 1
  | .map entries => uptoBulkEntries entries + 1
  | .held _ => 1
def uptoBulkAll {H : Type} : List (DataW H) → Nat
  | [] => 0
  | d :: r => uptoBulk d + uptoBulkAll r
def uptoBulkEntries {H : Type} : List (Lit × DataW H) → Nat
  | [] => 0
  | x :: r => uptoBulkEntry x + uptoBulkEntries r
def uptoBulkEntry {H : Type} : Lit × DataW H → Nat
  | (.string bytes, d) => bytes.length + uptoBulk d + 1
  | (_, d) => uptoBulk d + 1
 end
def uptoSmall : (H : Type) → List (DataW H) → Bool := fun _ ds => decide (uptoBulkAll ds ≤ 1048576)
def OpenSpec.upto (s : _root_.Go.ChangeSpec) : _root_.Go.OpenSpec := { _root_.Go.OpenSpec.ofChange s with cond := some uptoSmall }

/-- 'plugboardlaw37.CommandsMoves', WHERE WHAT IT READS IS OF BULK AT MOST 1048576: true; the input reads as it did. -/
def commandsMovesUptoRow : OpenClaim := { program := "ytfojemocffelhaadoor", sum := "8e16a8db8bd481b482679fbcbb82c2507439b796a161c4165362ee471c7d5771", func := "plugboard/plugboardlaw37.CommandsMoves", spec := "commandsMoves", unfollowed := true, recurses := true, named := ["plugboard/commands.forms", "internal/strconv.uint64pow10", "math/bits.deBruijn32tab", "math/bits.deBruijn64tab"], apart := false, laid := [("math/bits.deBruijn32tab", laid_math_bits_deBruijn32tab), ("math/bits.deBruijn64tab", laid_math_bits_deBruijn64tab), ("internal/strconv.uint64pow10", laid_internal_strconv_uint64pow10), ("plugboard/commands.forms", laid_plugboard_commands_forms)], narrowed := true }
def CommandsMovesUptoSaid : Prop := commandsMovesUptoRow.holds Tryd.pinned (OpenSpec.upto commandsMovesSpec)

/-- 'plugboardlaw37.CommandsSense', WHERE WHAT IT READS IS OF BULK AT MOST 1048576: true; the input reads as it did. -/
def commandsSenseUptoRow : OpenClaim := { program := "ytfojemocffelhaadoor", sum := "8e16a8db8bd481b482679fbcbb82c2507439b796a161c4165362ee471c7d5771", func := "plugboard/plugboardlaw37.CommandsSense", spec := "commandsSense", unfollowed := true, recurses := true, named := ["plugboard/commands.forms", "internal/strconv.uint64pow10", "math/bits.deBruijn32tab", "math/bits.deBruijn64tab"], apart := false, laid := [("math/bits.deBruijn32tab", laid_math_bits_deBruijn32tab), ("math/bits.deBruijn64tab", laid_math_bits_deBruijn64tab), ("internal/strconv.uint64pow10", laid_internal_strconv_uint64pow10), ("plugboard/commands.forms", laid_plugboard_commands_forms)], narrowed := true }
def CommandsSenseUptoSaid : Prop := commandsSenseUptoRow.holds Tryd.pinned (OpenSpec.upto commandsSenseSpec)

/-- 'plugboardlaw37.CommandsBack', WHERE WHAT IT READS IS OF BULK AT MOST 1048576: true; the input reads as it did. -/
def commandsBackUptoRow : OpenClaim := { program := "ytfojemocffelhaadoor", sum := "8e16a8db8bd481b482679fbcbb82c2507439b796a161c4165362ee471c7d5771", func := "plugboard/plugboardlaw37.CommandsBack", spec := "commandsBack", inPlace := ["internal/bytealg.IndexByteString", "internal/bytealg.IndexString"], unfollowed := true, recurses := true, named := ["plugboard/commands.forms", "unicode/utf8.first", "unicode/utf8.acceptRanges", "internal/strconv.uint64pow10", "math/bits.deBruijn32tab", "math/bits.deBruijn64tab", "internal/bytealg.MaxLen"], apart := false, laid := [("math/bits.deBruijn32tab", laid_math_bits_deBruijn32tab), ("math/bits.deBruijn64tab", laid_math_bits_deBruijn64tab), ("internal/strconv.uint64pow10", laid_internal_strconv_uint64pow10), ("unicode/utf8.acceptRanges", laid_unicode_utf8_acceptRanges), ("plugboard/commands.forms", laid_plugboard_commands_forms), ("unicode/utf8.first", laid_unicode_utf8_first)], narrowed := true }
def CommandsBackUptoSaid : Prop := commandsBackUptoRow.holds Tryd.pinned (OpenSpec.upto commandsBackSpec)

/-- 'plugboardlaw37.CommandsDecode', WHERE WHAT IT READS IS OF BULK AT MOST 1048576: true; the input reads as it did. -/
def commandsDecodeUptoRow : OpenClaim := { program := "ytfojemocffelhaadoor", sum := "8e16a8db8bd481b482679fbcbb82c2507439b796a161c4165362ee471c7d5771", func := "plugboard/plugboardlaw37.CommandsDecode", spec := "commandsDecode", inPlace := ["internal/bytealg.IndexByteString", "internal/bytealg.IndexString"], unfollowed := true, recurses := true, named := ["plugboard/commands.forms", "internal/strconv.uint64pow10", "math/bits.deBruijn32tab", "math/bits.deBruijn64tab", "unicode/utf8.first", "unicode/utf8.acceptRanges", "internal/bytealg.MaxLen"], apart := false, laid := [("math/bits.deBruijn32tab", laid_math_bits_deBruijn32tab), ("math/bits.deBruijn64tab", laid_math_bits_deBruijn64tab), ("internal/strconv.uint64pow10", laid_internal_strconv_uint64pow10), ("unicode/utf8.acceptRanges", laid_unicode_utf8_acceptRanges), ("plugboard/commands.forms", laid_plugboard_commands_forms), ("unicode/utf8.first", laid_unicode_utf8_first)], narrowed := true }
def CommandsDecodeUptoSaid : Prop := commandsDecodeUptoRow.holds Tryd.pinned (OpenSpec.upto commandsDecodeSpec)

/-- 'plugboardlaw37.CommandsInquiry', WHERE WHAT IT READS IS OF BULK AT MOST 1048576: true; the input reads as it did. -/
def commandsInquiryUptoRow : OpenClaim := { program := "ytfojemocffelhaadoor", sum := "8e16a8db8bd481b482679fbcbb82c2507439b796a161c4165362ee471c7d5771", func := "plugboard/plugboardlaw37.CommandsInquiry", spec := "commandsInquiry", inPlace := ["internal/abi.NoEscape", "internal/bytealg.MakeNoZero", "internal/bytealg.IndexByteString", "internal/bytealg.IndexString"], unfollowed := true, recurses := true, named := ["plugboard/commands.forms", "internal/strconv.uint64pow10", "math/bits.deBruijn32tab", "math/bits.deBruijn64tab", "unicode/utf8.first", "unicode/utf8.acceptRanges", "internal/bytealg.MaxLen"], apart := false, laid := [("math/bits.deBruijn32tab", laid_math_bits_deBruijn32tab), ("math/bits.deBruijn64tab", laid_math_bits_deBruijn64tab), ("internal/strconv.uint64pow10", laid_internal_strconv_uint64pow10), ("unicode/utf8.acceptRanges", laid_unicode_utf8_acceptRanges), ("plugboard/commands.forms", laid_plugboard_commands_forms), ("unicode/utf8.first", laid_unicode_utf8_first)], narrowed := true }
def CommandsInquiryUptoSaid : Prop := commandsInquiryUptoRow.holds Tryd.pinned (OpenSpec.upto commandsInquirySpec)

/-- 'plugboardlaw37.CommandsKnown', WHERE WHAT IT READS IS OF BULK AT MOST 1048576: true; the input reads as it did. -/
def commandsKnownUptoRow : OpenClaim := { program := "ytfojemocffelhaadoor", sum := "8e16a8db8bd481b482679fbcbb82c2507439b796a161c4165362ee471c7d5771", func := "plugboard/plugboardlaw37.CommandsKnown", spec := "commandsKnown", inPlace := ["internal/bytealg.IndexByteString", "internal/bytealg.IndexString", "internal/abi.NoEscape", "internal/bytealg.MakeNoZero"], unfollowed := true, recurses := true, named := ["plugboard/commands.forms", "unicode/utf8.first", "unicode/utf8.acceptRanges", "internal/strconv.uint64pow10", "math/bits.deBruijn32tab", "math/bits.deBruijn64tab", "internal/bytealg.MaxLen"], apart := false, laid := [("math/bits.deBruijn32tab", laid_math_bits_deBruijn32tab), ("math/bits.deBruijn64tab", laid_math_bits_deBruijn64tab), ("internal/strconv.uint64pow10", laid_internal_strconv_uint64pow10), ("unicode/utf8.acceptRanges", laid_unicode_utf8_acceptRanges), ("plugboard/commands.forms", laid_plugboard_commands_forms), ("unicode/utf8.first", laid_unicode_utf8_first)], narrowed := true }
def CommandsKnownUptoSaid : Prop := commandsKnownUptoRow.holds Tryd.pinned (OpenSpec.upto commandsKnownSpec)

end Rows
end Go.Proofs.YtfojemocffelhaaDoor
