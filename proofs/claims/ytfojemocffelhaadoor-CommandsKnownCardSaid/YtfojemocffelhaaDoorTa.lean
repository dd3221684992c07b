/- The table of the commands' forms; what the functions of the chapter return. -/
import Derived.Lib.Itoa
import Derived.Test.YtfojemocffelhaaDoorPd
set_option linter.unusedVariables false
set_option linter.unusedSimpArgs false
set_option linter.unusedSectionVars false
namespace Go.Proofs.YtfojemocffelhaaDoor
open Go.RowKit

structure Form where
  op : Nat
  name : ByteArray
  width : Nat
  len : Bool
  blk : Bool
  dir : Nat
instance : Inhabited Form := ⟨⟨0, ⟨#[]⟩, 0, false, false, 0⟩⟩
def formsL : List Form := [⟨0, ⟨#[82, 69, 65, 68, 89]⟩, 6, false, false, 0⟩, ⟨3, ⟨#[65, 83, 75]⟩, 6, true, false, 1⟩, ⟨18, ⟨#[73, 68, 69, 78, 84, 73, 70, 89]⟩, 6, true, false, 1⟩,
  ⟨37, ⟨#[83, 73, 90, 69]⟩, 10, false, false, 1⟩, ⟨40, ⟨#[82, 69, 65, 68]⟩, 10, false, true, 1⟩, ⟨42, ⟨#[87, 82, 73, 84, 69]⟩, 10, false, true, 2⟩, ⟨53, ⟨#[83, 89, 78, 67, 72, 82, 79, 78, 73, 90, 69]⟩, 10, false, true, 0⟩]
def encF (f : Form) : List Value := [.int .u8 f.op, .string f.name, .int .i64 f.width, .bool f.len, .bool f.blk, .int .u8 f.dir]
end Go.Proofs.YtfojemocffelhaaDoor
