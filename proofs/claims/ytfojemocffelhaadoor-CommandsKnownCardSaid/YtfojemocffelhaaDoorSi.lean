
/- Encode together; EncodeSense, DecodeSense. -/
import Derived.Test.YtfojemocffelhaaDoorChecked
import Derived.Deep.RegionHeld3
import Derived.Deep.DrawnRows
import Derived.Deep.DeepCutAuto
import Derived.Deep.LoopGhost
import Derived.Outline
import Derived.Handy
import Derived.OwnWalk
import Derived.Test.YtfojemocffelhaaDoorSh
set_option linter.unusedVariables false
set_option linter.unusedSimpArgs false
set_option linter.unusedSectionVars false
namespace Go.Proofs.YtfojemocffelhaaDoor
open Go.RowKit
attribute [local go_sem ↓] Go.wp_at_zero Go.wp_at_succ

def uz (x : Int) : UInt8 := UInt8.ofNat x.toNat
theorem uz_int {x : Int} (h0 : 0 ≤ x) (h : x < 256) : ((uz x).toNat : Int) = x := by
  unfold uz
  rw [UInt8.toNat_ofNat']
  omega
/-- the bytes of a proper command -/
def bytesZ (op b c l : Int) : List UInt8 :=
  if op = 0 then [0, 0, 0, 0, 0, 0] else if op = 3 ∨ op = 18 then [uz op, 0, 0, 0, uz l, 0] else if op = 37 then [37, 0, 0, 0, 0, 0, 0, 0, 0, 0]
  else [uz op, 0, byteOf b.toNat 3, byteOf b.toNat 2, byteOf b.toNat 1, byteOf b.toNat 0, 0, byteOf c.toNat 1, byteOf c.toNat 0, 0]
theorem encode_no (op b c l : Int) (w : World) (hT : Tabs w) (hb0 : 0 ≤ b) (hb : b < 4294967296) (hc0 : 0 ≤ c) (hc : c < 65536) (hP : properZ op b c l = false) :
    Calls Tryd.prog 11 #[.agg #[.int .u8 op, .int .u32 b, .int .u16 c, .int .i64 l]] w fun e w' => e = .returned (.tuple #[.slice none 0 0, .int .i64 1]) ∧ Kept w w' := by
  have hp : ∀ w, Tabs w → _ := fun w hT => proper_any op b c l w hT hb0 hb hc0 hc
  rw [hP] at hp
  exact encode_bad op b c l w hT hp
theorem encode_yes (op b c l : Int) (w : World) (hT : Tabs w) (hb0 : 0 ≤ b) (hb : b < 4294967296) (hc0 : 0 ≤ c) (hc : c < 65536) (hP : properZ op b c l = true) :
    Calls Tryd.prog 11 #[.agg #[.int .u8 op, .int .u32 b, .int .u16 c, .int .i64 l]] w fun e w' => ∃ g, e = .returned (.tuple #[.slice (some ⟨g, 0, none⟩) (bytesZ op b c l).length (bytesZ op b c l).length, .int .i64 0]) ∧ w.heap.size ≤ g ∧
      w'.heap[g]? = some (.cells (u8C (bytesZ op b c l)).toArray 5 (0, 0)) ∧ Kept w w' := by
  have hp : ∀ w, Tabs w → _ := fun w hT => proper_any op b c l w hT hb0 hb hc0 hc
  rw [hP] at hp
  have eb : b = (b.toNat : Int) := by omega
  have ec : c = (c.toNat : Int) := by omega
  rcases op_cases op with rfl | rfl | rfl | rfl | rfl | rfl | rfl | h
  · exact encode_six 0 b c l _ _ _ _ w hT trivial hp find_0
  · have hl : 0 ≤ l ∧ l ≤ 255 := by simp [properZ] at hP; omega
    refine (encode_len 3 b c l _ _ _ _ w hT hl.1 hl.2 hp find_3).mono ?_
    rintro e w' ⟨g, rfl, h1, h2, h3⟩
    refine ⟨g, rfl, h1, ?_, h3⟩
    rw [h2]; simp [bytesZ, u8C, uz_int hl.1 (show l < 256 by omega)]; rfl
  · have hl : 0 ≤ l ∧ l ≤ 255 := by simp [properZ] at hP; omega
    refine (encode_len 18 b c l _ _ _ _ w hT hl.1 hl.2 hp find_18).mono ?_
    rintro e w' ⟨g, rfl, h1, h2, h3⟩
    refine ⟨g, rfl, h1, ?_, h3⟩
    rw [h2]; simp [bytesZ, u8C, uz_int hl.1 (show l < 256 by omega)]; rfl
  · exact encode_ten 37 b c l _ _ _ _ w hT trivial hp find_37
  · exact encode_blk 40 b c l _ _ _ _ w hT _ _ eb ec (by omega) (by omega) hp find_40
  · exact encode_blk 42 b c l _ _ _ _ w hT _ _ eb ec (by omega) (by omega) hp find_42
  · exact encode_blk 53 b c l _ _ _ _ w hT _ _ eb ec (by omega) (by omega) hp find_53
  · have h' := properZ_none op h
    simp [properZ, h'] at hP

set_option maxRecDepth 100000 in
set_option maxHeartbeats 2000000 in
theorem sense_bad (k c x : Int) (w : World) (hk : 15 < k) :
    Calls Tryd.prog 16 #[.agg #[.int .u8 k, .int .u8 c, .int .u8 x]] w fun e w' => e = .returned (.tuple #[.slice none 0 0, .int .i64 1]) ∧ Kept w w' := by
  go_enter Tryd.func16, Tryd.ntmps16
  go_wp2_with fail
  refine bodyPost_ret (v := .tuple #[.slice none 0 0, .int .i64 1]) (by simp [results, Tryd.results16, go_sem]) rfl ?_
  exact ⟨rfl, by go_grown⟩
set_option maxRecDepth 100000 in
set_option maxHeartbeats 2000000 in
theorem sense_good (k c x : Int) (w : World) (hk : k ≤ 15) :
    Calls Tryd.prog 16 #[.agg #[.int .u8 k, .int .u8 c, .int .u8 x]] w fun e w' => ∃ g, e = .returned (.tuple #[.slice (some ⟨g, 0, none⟩) 18 18, .int .i64 0]) ∧ w.heap.size ≤ g ∧
      w'.heap[g]? = some (.cells #[.int .u8 112, .int .u8 0, .int .u8 k, .int .u8 0, .int .u8 0, .int .u8 0, .int .u8 0, .int .u8 10, .int .u8 0, .int .u8 0, .int .u8 0, .int .u8 0, .int .u8 c, .int .u8 x, .int .u8 0, .int .u8 0, .int .u8 0, .int .u8 0] 5 (0, 0)) ∧ Kept w w' := by
  have hmk := makeB18
  go_enter Tryd.func16, Tryd.ntmps16
  go_wp2_with fail
  go_region
  go_wp2_with fail
  refine bodyPost_ret (v := .tuple #[.slice (some ⟨w.heap.size + 1, 0, none⟩) 18 18, .int .i64 0]) (by simp [results, Tryd.results16, go_sem]) rfl ?_
  exact ⟨w.heap.size + 1, rfl, by omega, heap_drew (heap_at _ (by rw [World.size_alloc])), by go_grown⟩

theorem by_at {w w' : World} {B n k : Nat} {A : Option Addr} {l : List UInt8} (h : Sl byT w (low B) A n l) (hb : Below B w w') (hk : k < n) : ∃ x b off, l[k]? = some x ∧ A = some ⟨b, off, none⟩ ∧ b < B ∧ b < w'.heap.size ∧
    w'.cell? ⟨b, off + k, none⟩ = some (.int .u8 (x.toNat : Int)) := by
  obtain ⟨x, b, off, cs, hx, hA, hbb, ⟨rfl, _⟩, hc⟩ := h.at hk
  have hc' := range_below hc hb hbb
  have h0 := hc' 0 _ rfl
  simp only [byT, Ty.flat, Nat.mul_one, Nat.add_zero] at h0
  exact ⟨x, b, off, hx, hA, hbb, World.block_lt_of_cell? w' _ h0, h0⟩
set_option maxRecDepth 100000 in
set_option maxHeartbeats 2000000 in
theorem dsense_short (A : Option Addr) (n c : Nat) (w : World) (hn : n < 14) :
    Calls Tryd.prog 17 #[.slice A n c] w fun e w' => e = .returned (.tuple #[.agg #[.int .u8 0, .int .u8 0, .int .u8 0], .int .i64 5]) ∧ Kept w w' := by
  have hn' : (n : Int) < 14 := by omega
  go_enter Tryd.func17, Tryd.ntmps17
  go_wp2_with fail
  refine bodyPost_ret (v := .tuple #[.agg #[.int .u8 0, .int .u8 0, .int .u8 0], .int .i64 5]) (by simp [results, Tryd.results17, go_sem]) rfl ?_
  exact ⟨rfl, by go_grown⟩
set_option maxRecDepth 100000 in
set_option maxHeartbeats 2000000 in
theorem dsense_bad (b off n c : Nat) (z : Int) (w : World) (hn : 14 ≤ n) (hb : b < w.heap.size) (h0 : w.cell? ⟨b, off, none⟩ = some (.int .u8 z)) (hz : z ≠ 112) :
    Calls Tryd.prog 17 #[.slice (some ⟨b, off, none⟩) n c] w fun e w' => e = .returned (.tuple #[.agg #[.int .u8 0, .int .u8 0, .int .u8 0], .int .i64 4]) ∧ Kept w w' := by
  have hn' : (14 : Int) ≤ (n : Int) := by omega
  have hn0 : (0 : Int) < (n : Int) := by omega
  go_enter Tryd.func17, Tryd.ntmps17
  go_wp2_with fail
  refine bodyPost_ret (v := .tuple #[.agg #[.int .u8 0, .int .u8 0, .int .u8 0], .int .i64 4]) (by simp [results, Tryd.results17, go_sem]) rfl ?_
  exact ⟨rfl, by go_grown⟩
set_option maxRecDepth 100000 in
set_option maxHeartbeats 4000000 in
theorem dsense_good (b off n c : Nat) (k x y : Int) (w : World) (hn : 14 ≤ n) (hb : b < w.heap.size) (h0 : w.cell? ⟨b, off, none⟩ = some (.int .u8 112)) (h2 : w.cell? ⟨b, off + 2, none⟩ = some (.int .u8 k))
    (h12 : w.cell? ⟨b, off + 12, none⟩ = some (.int .u8 x)) (h13 : w.cell? ⟨b, off + 13, none⟩ = some (.int .u8 y)) (hk0 : 0 ≤ k) (hk1 : k < 256) :
    Calls Tryd.prog 17 #[.slice (some ⟨b, off, none⟩) n c] w fun e w' => e = .returned (.tuple #[.agg #[.int .u8 (k % 16), .int .u8 x, .int .u8 y], .int .i64 0]) ∧ Kept w w' := by
  have hn' : (14 : Int) ≤ (n : Int) := by omega
  have hn0 : (0 : Int) < (n : Int) := by omega
  have hn2 : (2 : Int) < (n : Int) := by omega
  have hn12 : (12 : Int) < (n : Int) := by omega
  have hn13 : (13 : Int) < (n : Int) := by omega
  have htm : k.tmod 16 = k % 16 := Int.tmod_eq_emod_of_nonneg hk0
  have hwr : IntKind.u8.wrap (k % 16) = k % 16 := by rw [IntKind.wrap_u8]; omega
  go_enter Tryd.func17, Tryd.ntmps17
  go_wp2_with fail
  go_region
  go_wp2_with fail
  refine bodyPost_ret (v := .tuple #[.agg #[.int .u8 (k % 16), .int .u8 x, .int .u8 y], .int .i64 0]) (by simp [results, Tryd.results17, go_sem]) rfl ?_
  exact ⟨rfl, by go_grown⟩
end Go.Proofs.YtfojemocffelhaaDoor
