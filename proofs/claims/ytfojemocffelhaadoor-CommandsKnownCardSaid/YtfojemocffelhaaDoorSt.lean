

/- Decode together: what it returns, for any bytes. -/
import Derived.Test.YtfojemocffelhaaDoorChecked
import Derived.Deep.RegionHeld3
import Derived.Deep.DrawnRows
import Derived.Deep.DeepCutAuto
import Derived.Deep.LoopGhost
import Derived.Outline
import Derived.Handy
import Derived.Test.YtfojemocffelhaaDoorSq
import Derived.Test.YtfojemocffelhaaDoorSr
import Derived.Test.YtfojemocffelhaaDoorSs
set_option linter.unusedVariables false
set_option linter.unusedSimpArgs false
set_option linter.unusedSectionVars false
namespace Go.Proofs.YtfojemocffelhaaDoor
open Go.RowKit Go.Shelf

def widZ (op : Int) : Nat := if op = 0 ∨ op = 3 ∨ op = 18 then 6 else if op = 37 ∨ op = 40 ∨ op = 42 ∨ op = 53 then 10 else 0
def opD (bs : List UInt8) : Int := ((bs[0]?.getD 0).toNat : Int)
def isBlk (op : Int) : Bool := decide (op = 40 ∨ op = 42 ∨ op = 53)
def isLen (op : Int) : Bool := decide (op = 3 ∨ op = 18)
def blkD (bs : List UInt8) : Int := if isBlk (opD bs) then (accN ((bs.drop 2).take 4) : Int) else 0
def cntD (bs : List UInt8) : Int := if isBlk (opD bs) then (accN ((bs.drop 7).take 2) : Int) else 0
def lenD (bs : List UInt8) : Int := if isLen (opD bs) then ((bs[4]?.getD 0).toNat : Int) else 0
def goodD (bs : List UInt8) : Bool := properZ (opD bs) (blkD bs) (cntD bs) (lenD bs) && (bytesZ (opD bs) (blkD bs) (cntD bs) (lenD bs) == bs.take (widZ (opD bs))) && (bs.drop (widZ (opD bs))).all (· == 0)
/-- the error of Decode -/
def errD (bs : List UInt8) : Int := if bs = [] then 4 else if widZ (opD bs) = 0 then 4 else if bs.length < widZ (opD bs) ∨ 16 < bs.length then 5 else if goodD bs then 0 else 4
def decV (bs : List UInt8) : Value := if errD bs = 0 then .agg #[.int .u8 (opD bs), .int .u32 (blkD bs), .int .u16 (cntD bs), .int .i64 (lenD bs)] else .agg #[.int .u8 0, .int .u32 0, .int .u16 0, .int .i64 0]

theorem bytesZ_len {op b c l : Int} (h : properZ op b c l = true) : (bytesZ op b c l).length = widZ op := by
  rcases op_cases op with rfl | rfl | rfl | rfl | rfl | rfl | rfl | h'
  all_goals first | rfl | skip
  have h' := properZ_none op h'
  simp [properZ, h'] at h
theorem not_all {l : List UInt8} (h : ¬ l.all (· == 0) = true) : Lib.trimB l 0 ≠ [] := by
  rw [List.all_eq_true] at h
  have : ∃ x, x ∈ l ∧ x ≠ 0 := by
    by_cases he : ∃ x, x ∈ l ∧ x ≠ 0
    · exact he
    · exfalso
      refine h fun x hx => ?_
      by_cases h0 : x = 0
      · simp [h0]
      · exact absurd ⟨x, hx, h0⟩ he
  obtain ⟨x, hx, h0⟩ := this
  exact trimB_some hx h0
theorem all_nil {l : List UInt8} (h : l.all (· == 0) = true) : Lib.trimB l 0 = [] := trimB_nil fun x hx => by
  rw [List.all_eq_true] at h
  simpa using h x hx
def DecG (g0 off n cp : Nat) (w : World) (bs : List UInt8) : Prop :=
  Calls Tryd.prog 20 #[.slice (some ⟨g0, off, none⟩) n cp] w fun e w' => e = .returned (.tuple #[decV bs, .int .i64 (errD bs)]) ∧ Kept w w'
theorem opD_of {bs : List UInt8} {x : UInt8} (h : bs[0]? = some x) : opD bs = (x.toNat : Int) := by unfold opD; rw [h]; rfl
theorem err_good {bs : List UInt8} (h0 : bs ≠ []) (h1 : widZ (opD bs) ≠ 0) (h2 : widZ (opD bs) ≤ bs.length) (h3 : bs.length ≤ 16) : errD bs = if goodD bs then 0 else 4 := by
  unfold errD
  rw [if_neg h0, if_neg h1, if_neg (by omega)]
theorem good_parts {bs : List UInt8} : goodD bs = true ↔ properZ (opD bs) (blkD bs) (cntD bs) (lenD bs) = true ∧ bytesZ (opD bs) (blkD bs) (cntD bs) (lenD bs) = bs.take (widZ (opD bs)) ∧ (bs.drop (widZ (opD bs))).all (· == 0) = true := by
  unfold goodD
  simp only [Bool.and_eq_true, beq_iff_eq, and_assoc]
/-- from the three outcomes -/
theorem dec_three {g0 off n cp : Nat} {w : World} {bs : List UInt8} (h0 : bs ≠ []) (h1 : widZ (opD bs) ≠ 0) (h2 : widZ (opD bs) ≤ bs.length) (h3 : bs.length ≤ 16)
    (hP : properZ (opD bs) (blkD bs) (cntD bs) (lenD bs) = true)
    (ne : bytesZ (opD bs) (blkD bs) (cntD bs) (lenD bs) ≠ bs.take (widZ (opD bs)) → Calls Tryd.prog 20 #[.slice (some ⟨g0, off, none⟩) n cp] w fun e w' => e = .returned (.tuple #[.agg #[.int .u8 0, .int .u32 0, .int .u16 0, .int .i64 0], .int .i64 4]) ∧ Kept w w')
    (tl : bytesZ (opD bs) (blkD bs) (cntD bs) (lenD bs) = bs.take (widZ (opD bs)) → Lib.trimB (bs.drop (widZ (opD bs))) 0 ≠ [] → Calls Tryd.prog 20 #[.slice (some ⟨g0, off, none⟩) n cp] w fun e w' => e = .returned (.tuple #[.agg #[.int .u8 0, .int .u32 0, .int .u16 0, .int .i64 0], .int .i64 4]) ∧ Kept w w')
    (ok : bytesZ (opD bs) (blkD bs) (cntD bs) (lenD bs) = bs.take (widZ (opD bs)) → Lib.trimB (bs.drop (widZ (opD bs))) 0 = [] → Calls Tryd.prog 20 #[.slice (some ⟨g0, off, none⟩) n cp] w fun e w' => e = .returned (.tuple #[.agg #[.int .u8 (opD bs), .int .u32 (blkD bs), .int .u16 (cntD bs), .int .i64 (lenD bs)], .int .i64 0]) ∧ Kept w w') : DecG g0 off n cp w bs := by
  have he := err_good h0 h1 h2 h3
  unfold DecG decV
  by_cases hb : bytesZ (opD bs) (blkD bs) (cntD bs) (lenD bs) = bs.take (widZ (opD bs))
  · by_cases ha : (bs.drop (widZ (opD bs))).all (· == 0) = true
    · rw [he, if_pos (good_parts.2 ⟨hP, hb, ha⟩), if_pos rfl]
      exact ok hb (all_nil ha)
    · rw [he, if_neg (fun h => ha (good_parts.1 h).2.2), if_neg (by decide)]
      exact tl hb (not_all ha)
  · rw [he, if_neg (fun h => hb (good_parts.1 h).2.1), if_neg (by decide)]
    exact ne hb
def Enc (op b c l : Int) (wd : Nat) (out : List UInt8) : Prop := ∀ w, Tabs w → Calls Tryd.prog 11 #[.agg #[.int .u8 op, .int .u32 b, .int .u16 c, .int .i64 l]] w fun e w' => ∃ g, e = .returned (.tuple #[.slice (some ⟨g, 0, none⟩) wd wd, .int .i64 0]) ∧ w.heap.size ≤ g ∧ w'.heap[g]? = some (.cells (u8C out).toArray 5 (0, 0)) ∧ Kept w w'
theorem enc_of {op b c l : Int} (hb0 : 0 ≤ b) (hb : b < 4294967296) (hc0 : 0 ≤ c) (hc : c < 65536) (hP : properZ op b c l = true) {wd : Nat} (hw : widZ op = wd) : Enc op b c l wd (bytesZ op b c l) := fun w hT => by
  have := encode_yes op b c l w hT hb0 hb hc0 hc hP
  rw [bytesZ_len hP, hw] at this
  exact this
end Go.Proofs.YtfojemocffelhaaDoor
