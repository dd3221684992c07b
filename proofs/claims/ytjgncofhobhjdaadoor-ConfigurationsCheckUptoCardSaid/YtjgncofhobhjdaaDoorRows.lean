/-
  NARROWER THAN 'FOR EVERY INPUT', by the rows' own cells (each row's printed sentence says how): ConfigurationsBack: laid · ConfigurationsParse: laid · ConfigurationsBytes: laid · ConfigurationsCheck: laid · ConfigurationsFill: laid · ConfigurationsText: laid · ConfigurationsSame: laid · ConfigurationsUse: laid · ConfigurationsFits: laid.
  DERIVED. THE GIVEN ROWS OF THIS SEAT. 9 by the template 'for every input the law returns true; each argument reads behind the call as it read before'; 0 by the template 'total and deterministic' (their statements: YtjgncofhobhjdaaDoorTotals.lean).
  GIVEN WITH THE SEED: the statements are not yours to turn. If you find one false, say at which input.
  Laid BY PROGRAM, IN A SANDBOX (cutbox-rows.mjs): the forced cells as the released guide's own fill.sh prints them over the translation 721bb262db96f313… (all of the seat's roots in one cut). By AI agents, Wed Nov 11 2026. No macro, syntax, notation, axiom, sorry.
-/
import Derived.Test.YtjgncofhobhjdaaDoorChecked
import GoSem.Claim
import GoSem.ClaimJoined
import GoSem.ClaimMapViews
import Derived.JoinedTies
import Derived.KernelRfl
namespace Go.Proofs.YtjgncofhobhjdaaDoor
/- THE CELL 'sum', in the pinned program and in every row, IS THE sha256 OF THE DUMP (.gsa) THAT YtjgncofhobhjdaaDoorProg.lean LOADS. Nothing in Lean hashes anything: it is a label: what it is worth is what the hold of that sum in a sandbox is worth. -/
noncomputable def Tryd.pinned : Pinned := { name := "ytjgncofhobhjdaadoor", sum := "721bb262db96f31322a9eb166d1802d4712ac9fcbf0d3f3251f9664c8e3e1135", checked := Tryd.checked }
namespace Rows
def none {H : Type} : Left H := { results := [], args := [] }

/- WHAT THE LISTED PACKAGE-LEVEL VARIABLES READ AS WHEN THE CALL BEGINS. Each datum BY PROGRAM (the guide's laid-datum.mjs) off the statement by which the dump's own 'gosem.cut.vars' lays the variable. In a bare row this is a premise. The card (YtjgncofhobhjdaaDoorCards.lean) ties it to the program's text. -/
def laid_math_bits_deBruijn32tab {H : Type} : DataW H := .agg [.lit (.int .u8 0), .lit (.int .u8 1), .lit (.int .u8 28), .lit (.int .u8 2), .lit (.int .u8 29), .lit (.int .u8 14), .lit (.int .u8 24), .lit (.int .u8 3), .lit (.int .u8 30), .lit (.int .u8 22), .lit (.int .u8 20), .lit (.int .u8 15), .lit (.int .u8 25), .lit (.int .u8 17), .lit (.int .u8 4), .lit (.int .u8 8), .lit (.int .u8 31), .lit (.int .u8 27), .lit (.int .u8 13), .lit (.int .u8 23), .lit (.int .u8 21), .lit (.int .u8 19), .lit (.int .u8 16), .lit (.int .u8 7), .lit (.int .u8 26), .lit (.int .u8 12), .lit (.int .u8 18), .lit (.int .u8 6), .lit (.int .u8 11), .lit (.int .u8 5), .lit (.int .u8 10), .lit (.int .u8 9)]
def laid_math_bits_deBruijn64tab {H : Type} : DataW H := .agg [.lit (.int .u8 0), .lit (.int .u8 1), .lit (.int .u8 56), .lit (.int .u8 2), .lit (.int .u8 57), .lit (.int .u8 49), .lit (.int .u8 28), .lit (.int .u8 3), .lit (.int .u8 61), .lit (.int .u8 58), .lit (.int .u8 42), .lit (.int .u8 50), .lit (.int .u8 38), .lit (.int .u8 29), .lit (.int .u8 17), .lit (.int .u8 4), .lit (.int .u8 62), .lit (.int .u8 47), .lit (.int .u8 59), .lit (.int .u8 36), .lit (.int .u8 45), .lit (.int .u8 43), .lit (.int .u8 51), .lit (.int .u8 22), .lit (.int .u8 53), .lit (.int .u8 39), .lit (.int .u8 33), .lit (.int .u8 30), .lit (.int .u8 24), .lit (.int .u8 18), .lit (.int .u8 12), .lit (.int .u8 5), .lit (.int .u8 63), .lit (.int .u8 55), .lit (.int .u8 48), .lit (.int .u8 27), .lit (.int .u8 60), .lit (.int .u8 41), .lit (.int .u8 37), .lit (.int .u8 16), .lit (.int .u8 46), .lit (.int .u8 35), .lit (.int .u8 44), .lit (.int .u8 21), .lit (.int .u8 52), .lit (.int .u8 32), .lit (.int .u8 23), .lit (.int .u8 11), .lit (.int .u8 54), .lit (.int .u8 26), .lit (.int .u8 40), .lit (.int .u8 15), .lit (.int .u8 34), .lit (.int .u8 20), .lit (.int .u8 31), .lit (.int .u8 10), .lit (.int .u8 25), .lit (.int .u8 14), .lit (.int .u8 19), .lit (.int .u8 9), .lit (.int .u8 13), .lit (.int .u8 8), .lit (.int .u8 7), .lit (.int .u8 6)]
def laid_internal_strconv_uint64pow10 {H : Type} : DataW H := .agg [.lit (.int .u64 1), .lit (.int .u64 10), .lit (.int .u64 100), .lit (.int .u64 1000), .lit (.int .u64 10000), .lit (.int .u64 100000), .lit (.int .u64 1000000), .lit (.int .u64 10000000), .lit (.int .u64 100000000), .lit (.int .u64 1000000000), .lit (.int .u64 10000000000), .lit (.int .u64 100000000000), .lit (.int .u64 1000000000000), .lit (.int .u64 10000000000000), .lit (.int .u64 100000000000000), .lit (.int .u64 1000000000000000), .lit (.int .u64 10000000000000000), .lit (.int .u64 100000000000000000), .lit (.int .u64 1000000000000000000), .lit (.int .u64 10000000000000000000)]

/-- 'plugboardlaw15.ConfigurationsBack': WHATEVER THE INPUT: true; the input reads as it did. -/
def configurationsBackSpec : ChangeSpec := { name := "configurationsBack", fn := fun _ => fun
  | [d] => { results := [.lit (.bool true)], args := [d] }
  | _ => none }
def configurationsBackRow : OpenClaim := { program := "ytjgncofhobhjdaadoor", sum := "721bb262db96f31322a9eb166d1802d4712ac9fcbf0d3f3251f9664c8e3e1135", func := "plugboard/plugboardlaw15.ConfigurationsBack", spec := "configurationsBack", inPlace := ["internal/abi.NoEscape", "internal/bytealg.MakeNoZero"], unfollowed := true, recurses := true, named := ["internal/strconv.uint64pow10", "math/bits.deBruijn32tab", "math/bits.deBruijn64tab"], apart := false, laid := [("math/bits.deBruijn32tab", laid_math_bits_deBruijn32tab), ("math/bits.deBruijn64tab", laid_math_bits_deBruijn64tab), ("internal/strconv.uint64pow10", laid_internal_strconv_uint64pow10)] }
def ConfigurationsBackSaid : Prop := configurationsBackRow.holds Tryd.pinned (OpenSpec.ofChange configurationsBackSpec)

/-- ITS FALSE NEIGHBOUR: 'it returns false'. Refute it at one input. -/
def configurationsBackWrong : ChangeSpec := { name := "configurationsBack", fn := fun _ => fun
  | [d] => { results := [.lit (.bool false)], args := [d] }
  | _ => none }
def ConfigurationsBackWrongFalsely : Prop := configurationsBackRow.holds Tryd.pinned (OpenSpec.ofChange configurationsBackWrong)

/-- 'plugboardlaw15.ConfigurationsParse': WHATEVER THE INPUT: true; the input reads as it did. -/
def configurationsParseSpec : ChangeSpec := { name := "configurationsParse", fn := fun _ => fun
  | [d1, d2, d3] => { results := [.lit (.bool true)], args := [d1, d2, d3] }
  | _ => none }
def configurationsParseRow : OpenClaim := { program := "ytjgncofhobhjdaadoor", sum := "721bb262db96f31322a9eb166d1802d4712ac9fcbf0d3f3251f9664c8e3e1135", func := "plugboard/plugboardlaw15.ConfigurationsParse", spec := "configurationsParse", inPlace := ["internal/abi.NoEscape", "internal/bytealg.MakeNoZero"], unfollowed := true, recurses := true, named := ["internal/strconv.uint64pow10", "math/bits.deBruijn32tab", "math/bits.deBruijn64tab"], apart := false, laid := [("math/bits.deBruijn32tab", laid_math_bits_deBruijn32tab), ("math/bits.deBruijn64tab", laid_math_bits_deBruijn64tab), ("internal/strconv.uint64pow10", laid_internal_strconv_uint64pow10)] }
def ConfigurationsParseSaid : Prop := configurationsParseRow.holds Tryd.pinned (OpenSpec.ofChange configurationsParseSpec)

/-- ITS FALSE NEIGHBOUR: 'it returns false'. Refute it at one input. -/
def configurationsParseWrong : ChangeSpec := { name := "configurationsParse", fn := fun _ => fun
  | [d1, d2, d3] => { results := [.lit (.bool false)], args := [d1, d2, d3] }
  | _ => none }
def ConfigurationsParseWrongFalsely : Prop := configurationsParseRow.holds Tryd.pinned (OpenSpec.ofChange configurationsParseWrong)

/-- 'plugboardlaw15.ConfigurationsBytes': WHATEVER THE INPUT: true; the input reads as it did. -/
def configurationsBytesSpec : ChangeSpec := { name := "configurationsBytes", fn := fun _ => fun
  | [d1, d2] => { results := [.lit (.bool true)], args := [d1, d2] }
  | _ => none }
def configurationsBytesRow : OpenClaim := { program := "ytjgncofhobhjdaadoor", sum := "721bb262db96f31322a9eb166d1802d4712ac9fcbf0d3f3251f9664c8e3e1135", func := "plugboard/plugboardlaw15.ConfigurationsBytes", spec := "configurationsBytes", inPlace := ["internal/abi.NoEscape", "internal/bytealg.MakeNoZero"], unfollowed := true, recurses := true, named := ["internal/strconv.uint64pow10", "math/bits.deBruijn32tab", "math/bits.deBruijn64tab"], apart := false, laid := [("math/bits.deBruijn32tab", laid_math_bits_deBruijn32tab), ("math/bits.deBruijn64tab", laid_math_bits_deBruijn64tab), ("internal/strconv.uint64pow10", laid_internal_strconv_uint64pow10)] }
def ConfigurationsBytesSaid : Prop := configurationsBytesRow.holds Tryd.pinned (OpenSpec.ofChange configurationsBytesSpec)

/-- ITS FALSE NEIGHBOUR: 'it returns false'. Refute it at one input. -/
def configurationsBytesWrong : ChangeSpec := { name := "configurationsBytes", fn := fun _ => fun
  | [d1, d2] => { results := [.lit (.bool false)], args := [d1, d2] }
  | _ => none }
def ConfigurationsBytesWrongFalsely : Prop := configurationsBytesRow.holds Tryd.pinned (OpenSpec.ofChange configurationsBytesWrong)

/-- 'plugboardlaw15.ConfigurationsCheck': WHATEVER THE INPUT: true; the input reads as it did. -/
def configurationsCheckSpec : ChangeSpec := { name := "configurationsCheck", fn := fun _ => fun
  | [d1, d2, d3] => { results := [.lit (.bool true)], args := [d1, d2, d3] }
  | _ => none }
def configurationsCheckRow : OpenClaim := { program := "ytjgncofhobhjdaadoor", sum := "721bb262db96f31322a9eb166d1802d4712ac9fcbf0d3f3251f9664c8e3e1135", func := "plugboard/plugboardlaw15.ConfigurationsCheck", spec := "configurationsCheck", inPlace := ["internal/abi.NoEscape", "internal/bytealg.MakeNoZero"], unfollowed := true, recurses := true, named := ["internal/strconv.uint64pow10", "math/bits.deBruijn32tab", "math/bits.deBruijn64tab"], apart := false, laid := [("math/bits.deBruijn32tab", laid_math_bits_deBruijn32tab), ("math/bits.deBruijn64tab", laid_math_bits_deBruijn64tab), ("internal/strconv.uint64pow10", laid_internal_strconv_uint64pow10)] }
def ConfigurationsCheckSaid : Prop := configurationsCheckRow.holds Tryd.pinned (OpenSpec.ofChange configurationsCheckSpec)

/-- ITS FALSE NEIGHBOUR: 'it returns false'. Refute it at one input. -/
def configurationsCheckWrong : ChangeSpec := { name := "configurationsCheck", fn := fun _ => fun
  | [d1, d2, d3] => { results := [.lit (.bool false)], args := [d1, d2, d3] }
  | _ => none }
def ConfigurationsCheckWrongFalsely : Prop := configurationsCheckRow.holds Tryd.pinned (OpenSpec.ofChange configurationsCheckWrong)

/-- 'plugboardlaw15.ConfigurationsFill': WHATEVER THE INPUT: true; the input reads as it did. -/
def configurationsFillSpec : ChangeSpec := { name := "configurationsFill", fn := fun _ => fun
  | [d1, d2] => { results := [.lit (.bool true)], args := [d1, d2] }
  | _ => none }
def configurationsFillRow : OpenClaim := { program := "ytjgncofhobhjdaadoor", sum := "721bb262db96f31322a9eb166d1802d4712ac9fcbf0d3f3251f9664c8e3e1135", func := "plugboard/plugboardlaw15.ConfigurationsFill", spec := "configurationsFill", inPlace := ["internal/abi.NoEscape", "internal/bytealg.MakeNoZero"], unfollowed := true, recurses := true, named := ["internal/strconv.uint64pow10", "math/bits.deBruijn32tab", "math/bits.deBruijn64tab"], apart := false, laid := [("math/bits.deBruijn32tab", laid_math_bits_deBruijn32tab), ("math/bits.deBruijn64tab", laid_math_bits_deBruijn64tab), ("internal/strconv.uint64pow10", laid_internal_strconv_uint64pow10)] }
def ConfigurationsFillSaid : Prop := configurationsFillRow.holds Tryd.pinned (OpenSpec.ofChange configurationsFillSpec)

/-- ITS FALSE NEIGHBOUR: 'it returns false'. Refute it at one input. -/
def configurationsFillWrong : ChangeSpec := { name := "configurationsFill", fn := fun _ => fun
  | [d1, d2] => { results := [.lit (.bool false)], args := [d1, d2] }
  | _ => none }
def ConfigurationsFillWrongFalsely : Prop := configurationsFillRow.holds Tryd.pinned (OpenSpec.ofChange configurationsFillWrong)

/-- 'plugboardlaw15.ConfigurationsText': WHATEVER THE INPUT: true; the input reads as it did. -/
def configurationsTextSpec : ChangeSpec := { name := "configurationsText", fn := fun _ => fun
  | [d] => { results := [.lit (.bool true)], args := [d] }
  | _ => none }
def configurationsTextRow : OpenClaim := { program := "ytjgncofhobhjdaadoor", sum := "721bb262db96f31322a9eb166d1802d4712ac9fcbf0d3f3251f9664c8e3e1135", func := "plugboard/plugboardlaw15.ConfigurationsText", spec := "configurationsText", inPlace := ["internal/abi.NoEscape", "internal/bytealg.MakeNoZero"], unfollowed := true, recurses := true, named := ["internal/strconv.uint64pow10", "math/bits.deBruijn32tab", "math/bits.deBruijn64tab"], apart := false, laid := [("math/bits.deBruijn32tab", laid_math_bits_deBruijn32tab), ("math/bits.deBruijn64tab", laid_math_bits_deBruijn64tab), ("internal/strconv.uint64pow10", laid_internal_strconv_uint64pow10)] }
def ConfigurationsTextSaid : Prop := configurationsTextRow.holds Tryd.pinned (OpenSpec.ofChange configurationsTextSpec)

/-- ITS FALSE NEIGHBOUR: 'it returns false'. Refute it at one input. -/
def configurationsTextWrong : ChangeSpec := { name := "configurationsText", fn := fun _ => fun
  | [d] => { results := [.lit (.bool false)], args := [d] }
  | _ => none }
def ConfigurationsTextWrongFalsely : Prop := configurationsTextRow.holds Tryd.pinned (OpenSpec.ofChange configurationsTextWrong)

/-- 'plugboardlaw15.ConfigurationsSame': WHATEVER THE INPUT: true; the input reads as it did. -/
def configurationsSameSpec : ChangeSpec := { name := "configurationsSame", fn := fun _ => fun
  | [d1, d2, d3] => { results := [.lit (.bool true)], args := [d1, d2, d3] }
  | _ => none }
def configurationsSameRow : OpenClaim := { program := "ytjgncofhobhjdaadoor", sum := "721bb262db96f31322a9eb166d1802d4712ac9fcbf0d3f3251f9664c8e3e1135", func := "plugboard/plugboardlaw15.ConfigurationsSame", spec := "configurationsSame", inPlace := ["internal/abi.NoEscape", "internal/bytealg.MakeNoZero"], unfollowed := true, recurses := true, named := ["internal/strconv.uint64pow10", "math/bits.deBruijn32tab", "math/bits.deBruijn64tab"], apart := false, laid := [("math/bits.deBruijn32tab", laid_math_bits_deBruijn32tab), ("math/bits.deBruijn64tab", laid_math_bits_deBruijn64tab), ("internal/strconv.uint64pow10", laid_internal_strconv_uint64pow10)] }
def ConfigurationsSameSaid : Prop := configurationsSameRow.holds Tryd.pinned (OpenSpec.ofChange configurationsSameSpec)

/-- ITS FALSE NEIGHBOUR: 'it returns false'. Refute it at one input. -/
def configurationsSameWrong : ChangeSpec := { name := "configurationsSame", fn := fun _ => fun
  | [d1, d2, d3] => { results := [.lit (.bool false)], args := [d1, d2, d3] }
  | _ => none }
def ConfigurationsSameWrongFalsely : Prop := configurationsSameRow.holds Tryd.pinned (OpenSpec.ofChange configurationsSameWrong)

/-- 'plugboardlaw15.ConfigurationsUse': WHATEVER THE INPUT: true; the input reads as it did. -/
def configurationsUseSpec : ChangeSpec := { name := "configurationsUse", fn := fun _ => fun
  | [d1, d2, d3] => { results := [.lit (.bool true)], args := [d1, d2, d3] }
  | _ => none }
def configurationsUseRow : OpenClaim := { program := "ytjgncofhobhjdaadoor", sum := "721bb262db96f31322a9eb166d1802d4712ac9fcbf0d3f3251f9664c8e3e1135", func := "plugboard/plugboardlaw15.ConfigurationsUse", spec := "configurationsUse", inPlace := ["internal/abi.NoEscape", "internal/bytealg.MakeNoZero"], unfollowed := true, recurses := true, named := ["internal/strconv.uint64pow10", "math/bits.deBruijn32tab", "math/bits.deBruijn64tab"], apart := false, laid := [("math/bits.deBruijn32tab", laid_math_bits_deBruijn32tab), ("math/bits.deBruijn64tab", laid_math_bits_deBruijn64tab), ("internal/strconv.uint64pow10", laid_internal_strconv_uint64pow10)] }
def ConfigurationsUseSaid : Prop := configurationsUseRow.holds Tryd.pinned (OpenSpec.ofChange configurationsUseSpec)

/-- ITS FALSE NEIGHBOUR: 'it returns false'. Refute it at one input. -/
def configurationsUseWrong : ChangeSpec := { name := "configurationsUse", fn := fun _ => fun
  | [d1, d2, d3] => { results := [.lit (.bool false)], args := [d1, d2, d3] }
  | _ => none }
def ConfigurationsUseWrongFalsely : Prop := configurationsUseRow.holds Tryd.pinned (OpenSpec.ofChange configurationsUseWrong)

/-- 'plugboardlaw15.ConfigurationsFits': WHATEVER THE INPUT: true; the input reads as it did. -/
def configurationsFitsSpec : ChangeSpec := { name := "configurationsFits", fn := fun _ => fun
  | [d1, d2] => { results := [.lit (.bool true)], args := [d1, d2] }
  | _ => none }
def configurationsFitsRow : OpenClaim := { program := "ytjgncofhobhjdaadoor", sum := "721bb262db96f31322a9eb166d1802d4712ac9fcbf0d3f3251f9664c8e3e1135", func := "plugboard/plugboardlaw15.ConfigurationsFits", spec := "configurationsFits", inPlace := ["internal/abi.NoEscape", "internal/bytealg.MakeNoZero"], unfollowed := true, recurses := true, named := ["internal/strconv.uint64pow10", "math/bits.deBruijn32tab", "math/bits.deBruijn64tab"], apart := false, laid := [("math/bits.deBruijn32tab", laid_math_bits_deBruijn32tab), ("math/bits.deBruijn64tab", laid_math_bits_deBruijn64tab), ("internal/strconv.uint64pow10", laid_internal_strconv_uint64pow10)] }
def ConfigurationsFitsSaid : Prop := configurationsFitsRow.holds Tryd.pinned (OpenSpec.ofChange configurationsFitsSpec)

/-- ITS FALSE NEIGHBOUR: 'it returns false'. Refute it at one input. -/
def configurationsFitsWrong : ChangeSpec := { name := "configurationsFits", fn := fun _ => fun
  | [d1, d2] => { results := [.lit (.bool false)], args := [d1, d2] }
  | _ => none }
def ConfigurationsFitsWrongFalsely : Prop := configurationsFitsRow.holds Tryd.pinned (OpenSpec.ofChange configurationsFitsWrong)

/- THE SECOND FORM. 'bulk': how many values and letters a reading holds, each counted each time it is reached (what is shared counts as often as it is met; a slice's spare places count too). A statement '..UptoSaid' is the law's where the arguments, and the package variables that the reading takes, are together of bulk at most 1048576: NARROWER than '..Said'. Prove '..Said' where nothing that the law and all that it calls make is longer than what came in: it says more and counts as full. Else prove '..UptoSaid'. A law counts once. -/
mutual
def uptoBulk {H : Type} : DataW H → Nat
  | .lit (.string bytes) => bytes.length + 1
  | .lit _ => 1
  | .nil => 1
  | .ptr d => uptoBulk d + 1
  | .slice elems spare => uptoBulkAll elems + uptoBulkAll spare + 1
  | .agg parts => uptoBulkAll parts + 1
  | .iface _ d => uptoBulk d + 1
  | .map entries => uptoBulkEntries entries + 1
  | .held _ => 1
def uptoBulkAll {H : Type} : List (DataW H) → Nat
  | [] => 0
  | d :: r => uptoBulk d + uptoBulkAll r
def uptoBulkEntries {H : Type} : List (Lit × DataW H) → Nat
  | [] => 0
  | x :: r => uptoBulkEntry x + uptoBulkEntries r
def uptoBulkEntry {H : Type} : Lit × DataW H → Nat
  | (.string bytes, d) => bytes.length + uptoBulk d + 1
  | (_, d) => uptoBulk d + 1
 end
def uptoSmall : (H : Type) → List (DataW H) → Bool := fun _ ds => decide (uptoBulkAll ds ≤ 1048576)
def OpenSpec.upto (s : _root_.Go.ChangeSpec) : _root_.Go.OpenSpec := { _root_.Go.OpenSpec.ofChange s with cond := some uptoSmall }

/-- 'plugboardlaw15.ConfigurationsBack', WHERE WHAT IT READS IS OF BULK AT MOST 1048576: true; the input reads as it did. -/
def configurationsBackUptoRow : OpenClaim := { program := "ytjgncofhobhjdaadoor", sum := "721bb262db96f31322a9eb166d1802d4712ac9fcbf0d3f3251f9664c8e3e1135", func := "plugboard/plugboardlaw15.ConfigurationsBack", spec := "configurationsBack", inPlace := ["internal/abi.NoEscape", "internal/bytealg.MakeNoZero"], unfollowed := true, recurses := true, named := ["internal/strconv.uint64pow10", "math/bits.deBruijn32tab", "math/bits.deBruijn64tab"], apart := false, laid := [("math/bits.deBruijn32tab", laid_math_bits_deBruijn32tab), ("math/bits.deBruijn64tab", laid_math_bits_deBruijn64tab), ("internal/strconv.uint64pow10", laid_internal_strconv_uint64pow10)], narrowed := true }
def ConfigurationsBackUptoSaid : Prop := configurationsBackUptoRow.holds Tryd.pinned (OpenSpec.upto configurationsBackSpec)

/-- 'plugboardlaw15.ConfigurationsParse', WHERE WHAT IT READS IS OF BULK AT MOST 1048576: true; the input reads as it did. -/
def configurationsParseUptoRow : OpenClaim := { program := "ytjgncofhobhjdaadoor", sum := "721bb262db96f31322a9eb166d1802d4712ac9fcbf0d3f3251f9664c8e3e1135", func := "plugboard/plugboardlaw15.ConfigurationsParse", spec := "configurationsParse", inPlace := ["internal/abi.NoEscape", "internal/bytealg.MakeNoZero"], unfollowed := true, recurses := true, named := ["internal/strconv.uint64pow10", "math/bits.deBruijn32tab", "math/bits.deBruijn64tab"], apart := false, laid := [("math/bits.deBruijn32tab", laid_math_bits_deBruijn32tab), ("math/bits.deBruijn64tab", laid_math_bits_deBruijn64tab), ("internal/strconv.uint64pow10", laid_internal_strconv_uint64pow10)], narrowed := true }
def ConfigurationsParseUptoSaid : Prop := configurationsParseUptoRow.holds Tryd.pinned (OpenSpec.upto configurationsParseSpec)

/-- 'plugboardlaw15.ConfigurationsBytes', WHERE WHAT IT READS IS OF BULK AT MOST 1048576: true; the input reads as it did. -/
def configurationsBytesUptoRow : OpenClaim := { program := "ytjgncofhobhjdaadoor", sum := "721bb262db96f31322a9eb166d1802d4712ac9fcbf0d3f3251f9664c8e3e1135", func := "plugboard/plugboardlaw15.ConfigurationsBytes", spec := "configurationsBytes", inPlace := ["internal/abi.NoEscape", "internal/bytealg.MakeNoZero"], unfollowed := true, recurses := true, named := ["internal/strconv.uint64pow10", "math/bits.deBruijn32tab", "math/bits.deBruijn64tab"], apart := false, laid := [("math/bits.deBruijn32tab", laid_math_bits_deBruijn32tab), ("math/bits.deBruijn64tab", laid_math_bits_deBruijn64tab), ("internal/strconv.uint64pow10", laid_internal_strconv_uint64pow10)], narrowed := true }
def ConfigurationsBytesUptoSaid : Prop := configurationsBytesUptoRow.holds Tryd.pinned (OpenSpec.upto configurationsBytesSpec)

/-- 'plugboardlaw15.ConfigurationsCheck', WHERE WHAT IT READS IS OF BULK AT MOST 1048576: true; the input reads as it did. -/
def configurationsCheckUptoRow : OpenClaim := { program := "ytjgncofhobhjdaadoor", sum := "721bb262db96f31322a9eb166d1802d4712ac9fcbf0d3f3251f9664c8e3e1135", func := "plugboard/plugboardlaw15.ConfigurationsCheck", spec := "configurationsCheck", inPlace := ["internal/abi.NoEscape", "internal/bytealg.MakeNoZero"], unfollowed := true, recurses := true, named := ["internal/strconv.uint64pow10", "math/bits.deBruijn32tab", "math/bits.deBruijn64tab"], apart := false, laid := [("math/bits.deBruijn32tab", laid_math_bits_deBruijn32tab), ("math/bits.deBruijn64tab", laid_math_bits_deBruijn64tab), ("internal/strconv.uint64pow10", laid_internal_strconv_uint64pow10)], narrowed := true }
def ConfigurationsCheckUptoSaid : Prop := configurationsCheckUptoRow.holds Tryd.pinned (OpenSpec.upto configurationsCheckSpec)

/-- 'plugboardlaw15.ConfigurationsFill', WHERE WHAT IT READS IS OF BULK AT MOST 1048576: true; the input reads as it did. -/
def configurationsFillUptoRow : OpenClaim := { program := "ytjgncofhobhjdaadoor", sum := "721bb262db96f31322a9eb166d1802d4712ac9fcbf0d3f3251f9664c8e3e1135", func := "plugboard/plugboardlaw15.ConfigurationsFill", spec := "configurationsFill", inPlace := ["internal/abi.NoEscape", "internal/bytealg.MakeNoZero"], unfollowed := true, recurses := true, named := ["internal/strconv.uint64pow10", "math/bits.deBruijn32tab", "math/bits.deBruijn64tab"], apart := false, laid := [("math/bits.deBruijn32tab", laid_math_bits_deBruijn32tab), ("math/bits.deBruijn64tab", laid_math_bits_deBruijn64tab), ("internal/strconv.uint64pow10", laid_internal_strconv_uint64pow10)], narrowed := true }
def ConfigurationsFillUptoSaid : Prop := configurationsFillUptoRow.holds Tryd.pinned (OpenSpec.upto configurationsFillSpec)

/-- 'plugboardlaw15.ConfigurationsText', WHERE WHAT IT READS IS OF BULK AT MOST 1048576: true; the input reads as it did. -/
def configurationsTextUptoRow : OpenClaim := { program := "ytjgncofhobhjdaadoor", sum := "721bb262db96f31322a9eb166d1802d4712ac9fcbf0d3f3251f9664c8e3e1135", func := "plugboard/plugboardlaw15.ConfigurationsText", spec := "configurationsText", inPlace := ["internal/abi.NoEscape", "internal/bytealg.MakeNoZero"], unfollowed := true, recurses := true, named := ["internal/strconv.uint64pow10", "math/bits.deBruijn32tab", "math/bits.deBruijn64tab"], apart := false, laid := [("math/bits.deBruijn32tab", laid_math_bits_deBruijn32tab), ("math/bits.deBruijn64tab", laid_math_bits_deBruijn64tab), ("internal/strconv.uint64pow10", laid_internal_strconv_uint64pow10)], narrowed := true }
def ConfigurationsTextUptoSaid : Prop := configurationsTextUptoRow.holds Tryd.pinned (OpenSpec.upto configurationsTextSpec)

/-- 'plugboardlaw15.ConfigurationsSame', WHERE WHAT IT READS IS OF BULK AT MOST 1048576: true; the input reads as it did. -/
def configurationsSameUptoRow : OpenClaim := { program := "ytjgncofhobhjdaadoor", sum := "721bb262db96f31322a9eb166d1802d4712ac9fcbf0d3f3251f9664c8e3e1135", func := "plugboard/plugboardlaw15.ConfigurationsSame", spec := "configurationsSame", inPlace := ["internal/abi.NoEscape", "internal/bytealg.MakeNoZero"], unfollowed := true, recurses := true, named := ["internal/strconv.uint64pow10", "math/bits.deBruijn32tab", "math/bits.deBruijn64tab"], apart := false, laid := [("math/bits.deBruijn32tab", laid_math_bits_deBruijn32tab), ("math/bits.deBruijn64tab", laid_math_bits_deBruijn64tab), ("internal/strconv.uint64pow10", laid_internal_strconv_uint64pow10)], narrowed := true }
def ConfigurationsSameUptoSaid : Prop := configurationsSameUptoRow.holds Tryd.pinned (OpenSpec.upto configurationsSameSpec)

/-- 'plugboardlaw15.ConfigurationsUse', WHERE WHAT IT READS IS OF BULK AT MOST 1048576: true; the input reads as it did. -/
def configurationsUseUptoRow : OpenClaim := { program := "ytjgncofhobhjdaadoor", sum := "721bb262db96f31322a9eb166d1802d4712ac9fcbf0d3f3251f9664c8e3e1135", func := "plugboard/plugboardlaw15.ConfigurationsUse", spec := "configurationsUse", inPlace := ["internal/abi.NoEscape", "internal/bytealg.MakeNoZero"], unfollowed := true, recurses := true, named := ["internal/strconv.uint64pow10", "math/bits.deBruijn32tab", "math/bits.deBruijn64tab"], apart := false, laid := [("math/bits.deBruijn32tab", laid_math_bits_deBruijn32tab), ("math/bits.deBruijn64tab", laid_math_bits_deBruijn64tab), ("internal/strconv.uint64pow10", laid_internal_strconv_uint64pow10)], narrowed := true }
def ConfigurationsUseUptoSaid : Prop := configurationsUseUptoRow.holds Tryd.pinned (OpenSpec.upto configurationsUseSpec)

/-- 'plugboardlaw15.ConfigurationsFits', WHERE WHAT IT READS IS OF BULK AT MOST 1048576: true; the input reads as it did. -/
def configurationsFitsUptoRow : OpenClaim := { program := "ytjgncofhobhjdaadoor", sum := "721bb262db96f31322a9eb166d1802d4712ac9fcbf0d3f3251f9664c8e3e1135", func := "plugboard/plugboardlaw15.ConfigurationsFits", spec := "configurationsFits", inPlace := ["internal/abi.NoEscape", "internal/bytealg.MakeNoZero"], unfollowed := true, recurses := true, named := ["internal/strconv.uint64pow10", "math/bits.deBruijn32tab", "math/bits.deBruijn64tab"], apart := false, laid := [("math/bits.deBruijn32tab", laid_math_bits_deBruijn32tab), ("math/bits.deBruijn64tab", laid_math_bits_deBruijn64tab), ("internal/strconv.uint64pow10", laid_internal_strconv_uint64pow10)], narrowed := true }
def ConfigurationsFitsUptoSaid : Prop := configurationsFitsUptoRow.holds Tryd.pinned (OpenSpec.upto configurationsFitsSpec)

end Rows
end Go.Proofs.YtjgncofhobhjdaaDoor
