
/- What Decode answers to the bytes of a proper command, to the beginnings of them, and to other bytes. No program. -/
import Derived.Test.YtfojemocffelhaaDoorChecked
import Derived.Deep.RegionHeld3
import Derived.Deep.DrawnRows
import Derived.Deep.DeepCutAuto
import Derived.Deep.LoopGhost
import Derived.Outline
import Derived.Handy
import Derived.Test.YtfojemocffelhaaDoorSt
set_option linter.unusedVariables false
set_option linter.unusedSimpArgs false
set_option linter.unusedSectionVars false
namespace Go.Proofs.YtfojemocffelhaaDoor
open Go.RowKit

theorem acc4 {n : Nat} (h : n < 4294967296) : accN [byteOf n 3, byteOf n 2, byteOf n 1, byteOf n 0] = n := by
  have h3 := byte3 h
  have h2 := byte2 n
  have h1 := byte1 n
  have h0 := byte0 n
  simp only [accN, List.foldl_cons, List.foldl_nil]
  omega
theorem acc2 {n : Nat} (h : n < 65536) : accN [byteOf n 1, byteOf n 0] = n := by
  have h1 := byte1' h
  have h0 := byte0 n
  simp only [accN, List.foldl_cons, List.foldl_nil]
  omega
theorem parts_of {op b c l : Int} (hP : properZ op b c l = true) (hb0 : 0 ≤ b) (hb : b < 4294967296) (hc0 : 0 ≤ c) (hc : c < 65536) (R : List UInt8) :
    opD (bytesZ op b c l ++ R) = op ∧ blkD (bytesZ op b c l ++ R) = b ∧ cntD (bytesZ op b c l ++ R) = c ∧ lenD (bytesZ op b c l ++ R) = l := by
  have a4 := acc4 (n := b.toNat) (by omega)
  have a2 := acc2 (n := c.toNat) (by omega)
  rcases op_cases op with rfl | rfl | rfl | rfl | rfl | rfl | rfl | h'
  · have : b = 0 ∧ c = 0 ∧ l = 0 := by simp [properZ] at hP; omega
    obtain ⟨rfl, rfl, rfl⟩ := this
    exact ⟨rfl, rfl, rfl, rfl⟩
  · have : b = 0 ∧ c = 0 ∧ 0 ≤ l ∧ l ≤ 255 := by simp [properZ] at hP; omega
    obtain ⟨rfl, rfl, h0, h1⟩ := this
    exact ⟨rfl, rfl, rfl, uz_int h0 (by omega)⟩
  · have : b = 0 ∧ c = 0 ∧ 0 ≤ l ∧ l ≤ 255 := by simp [properZ] at hP; omega
    obtain ⟨rfl, rfl, h0, h1⟩ := this
    exact ⟨rfl, rfl, rfl, uz_int h0 (by omega)⟩
  · have : b = 0 ∧ c = 0 ∧ l = 0 := by simp [properZ] at hP; omega
    obtain ⟨rfl, rfl, rfl⟩ := this
    exact ⟨rfl, rfl, rfl, rfl⟩
  · have : l = 0 := by simp [properZ] at hP; omega
    subst this
    refine ⟨rfl, ?_, ?_, rfl⟩
    · show ((accN [byteOf b.toNat 3, byteOf b.toNat 2, byteOf b.toNat 1, byteOf b.toNat 0] : Nat) : Int) = b
      rw [a4]; omega
    · show ((accN [byteOf c.toNat 1, byteOf c.toNat 0] : Nat) : Int) = c
      rw [a2]; omega
  · have : l = 0 := by simp [properZ] at hP; omega
    subst this
    refine ⟨rfl, ?_, ?_, rfl⟩
    · show ((accN [byteOf b.toNat 3, byteOf b.toNat 2, byteOf b.toNat 1, byteOf b.toNat 0] : Nat) : Int) = b
      rw [a4]; omega
    · show ((accN [byteOf c.toNat 1, byteOf c.toNat 0] : Nat) : Int) = c
      rw [a2]; omega
  · have : l = 0 := by simp [properZ] at hP; omega
    subst this
    refine ⟨rfl, ?_, ?_, rfl⟩
    · show ((accN [byteOf b.toNat 3, byteOf b.toNat 2, byteOf b.toNat 1, byteOf b.toNat 0] : Nat) : Int) = b
      rw [a4]; omega
    · show ((accN [byteOf c.toNat 1, byteOf c.toNat 0] : Nat) : Int) = c
      rw [a2]; omega
  · have h' := properZ_none op h'
    simp [properZ, h'] at hP
theorem wid_pos {op b c l : Int} (hP : properZ op b c l = true) : 6 ≤ widZ op ∧ widZ op ≤ 10 := by
  rcases op_cases op with rfl | rfl | rfl | rfl | rfl | rfl | rfl | h'
  all_goals first | exact ⟨by decide, by decide⟩ | skip
  have h' := properZ_none op h'
  simp [properZ, h'] at hP
section
variable {op b c l : Int} (hP : properZ op b c l = true) (hb0 : 0 ≤ b) (hb : b < 4294967296) (hc0 : 0 ≤ c) (hc : c < 65536)
include hP hb0 hb hc0 hc
/-- with zeros behind -/
theorem err_long (m : Nat) : errD (bytesZ op b c l ++ List.replicate m 0) = if 16 < (bytesZ op b c l).length + m then 5 else 0 := by
  obtain ⟨e1, e2, e3, e4⟩ := parts_of hP hb0 hb hc0 hc (List.replicate m 0)
  have hw := wid_pos hP
  have hl := bytesZ_len hP
  have hne : bytesZ op b c l ++ List.replicate m 0 ≠ [] := fun h => by
    have := congrArg List.length h
    rw [List.length_append, hl, List.length_nil] at this
    omega
  unfold errD
  rw [if_neg hne, e1, if_neg (by omega), List.length_append, List.length_replicate, hl]
  by_cases h16 : 16 < widZ op + m
  · rw [if_pos (Or.inr h16), if_pos h16]
  · rw [if_neg (by omega), if_neg h16, if_pos]
    refine good_parts.2 ⟨by rw [e1, e2, e3, e4]; exact hP, ?_, ?_⟩
    · rw [e1, e2, e3, e4, ← hl, List.take_left]
    · rw [e1, ← hl, List.drop_left]
      simp
theorem dec_long (m : Nat) (h : (bytesZ op b c l).length + m ≤ 16) : decV (bytesZ op b c l ++ List.replicate m 0) = .agg #[.int .u8 op, .int .u32 b, .int .u16 c, .int .i64 l] := by
  obtain ⟨e1, e2, e3, e4⟩ := parts_of hP hb0 hb hc0 hc (List.replicate m 0)
  have he := err_long hP hb0 hb hc0 hc m
  rw [if_neg (by omega)] at he
  unfold decV
  rw [he, if_pos rfl, e1, e2, e3, e4]
/-- a beginning -/
theorem err_take (i : Nat) (hi : i < (bytesZ op b c l).length) : errD ((bytesZ op b c l).take i) = if i = 0 then 4 else 5 := by
  have hw := wid_pos hP
  have hl := bytesZ_len hP
  by_cases h0 : i = 0
  · subst h0
    rfl
  · obtain ⟨e1, _, _, _⟩ := parts_of hP hb0 hb hc0 hc []
    rw [List.append_nil] at e1
    have e : opD ((bytesZ op b c l).take i) = op := by
      unfold opD at e1 ⊢
      rw [List.getElem?_take_of_lt (by omega)]
      exact e1
    have hne : (bytesZ op b c l).take i ≠ [] := fun h => by
      have := congrArg List.length h
      rw [List.length_take, List.length_nil] at this
      omega
    unfold errD
    rw [if_neg hne, e, if_neg (by omega), if_pos (Or.inl (by rw [List.length_take]; omega)), if_neg h0]
/-- other bytes, as many -/
theorem err_other (O : List UInt8) (hO : O.length = (bytesZ op b c l).length) (hne : O ≠ bytesZ op b c l) (he : errD O = 0) :
    properZ (opD O) (blkD O) (cntD O) (lenD O) = true ∧ bytesZ (opD O) (blkD O) (cntD O) (lenD O) = O.take (widZ (opD O)) ∧ widZ (opD O) ≤ O.length ∧ ¬ (opD O = op ∧ blkD O = b ∧ cntD O = c ∧ lenD O = l) := by
  have hl := bytesZ_len hP
  obtain ⟨_, _⟩ := And.intro (And.intro hb0 hb) (And.intro hc0 hc)
  have hg : goodD O = true ∧ widZ (opD O) ≤ O.length := by
    unfold errD at he
    split at he
    · cases he
    · split at he
      · cases he
      · split at he
        · cases he
        · split at he
          · rename_i h1 h2 h3 h4
            exact ⟨h4, by omega⟩
          · cases he
  obtain ⟨h1, h2, h3⟩ := good_parts.1 hg.1
  refine ⟨h1, h2, hg.2, fun ⟨a1, a2, a3, a4⟩ => hne ?_⟩
  rw [a1, a2, a3, a4, ← hl, ← hO, List.take_length] at h2
  exact h2.symm
end
theorem dec_zero {bs : List UInt8} (h : errD bs ≠ 0) : decV bs = .agg #[.int .u8 0, .int .u32 0, .int .u16 0, .int .i64 0] := by
  unfold decV
  rw [if_neg h]
theorem dec_some {bs : List UInt8} (h : errD bs = 0) : decV bs = .agg #[.int .u8 (opD bs), .int .u32 (blkD bs), .int .u16 (cntD bs), .int .i64 (lenD bs)] := by
  unfold decV
  rw [if_pos h]
theorem acc_bd (l : List UInt8) (k : Nat) (h : l.length ≤ k) : accN l < 256 ^ k := Nat.lt_of_lt_of_le (accN_lt l) (Nat.pow_le_pow_right (by omega) h)
theorem blk_bd (bs : List UInt8) : 0 ≤ blkD bs ∧ blkD bs < 4294967296 := by
  unfold blkD
  split
  · have := acc_bd ((bs.drop 2).take 4) 4 (by rw [List.length_take]; omega)
    omega
  · omega
theorem cnt_bd (bs : List UInt8) : 0 ≤ cntD bs ∧ cntD bs < 65536 := by
  unfold cntD
  split
  · have := acc_bd ((bs.drop 7).take 2) 2 (by rw [List.length_take]; omega)
    omega
  · omega
end Go.Proofs.YtfojemocffelhaaDoor
