


/- CommandsMoves together. -/
import Derived.Test.YtfojemocffelhaaDoorChecked
import Derived.Deep.RegionHeld3
import Derived.Deep.DrawnRows
import Derived.Deep.DeepCutAuto
import Derived.Deep.LoopGhost
import Derived.Outline
import Derived.Handy
import Derived.Test.YtfojemocffelhaaDoorLe
import Derived.Test.YtfojemocffelhaaDoorLf
import Derived.Test.YtfojemocffelhaaDoorLg
import Derived.Test.YtfojemocffelhaaDoorLh
namespace Go.Proofs.YtfojemocffelhaaDoor
open Go.RowKit

def M9 (op b c l size d n er : Int) : Prop := ∀ w, Tabs w → Calls Tryd.prog 9 #[.agg #[.int .u8 op, .int .u32 b, .int .u16 c, .int .i64 l], .int .i64 size] w fun e w' => e = .returned (.tuple #[.int .u8 d, .int .i64 n, .int .i64 er]) ∧ Kept w w'
theorem m9_of {op b c l size d n er : Int} (hb0 : 0 ≤ b) (hb : b < 4294967296) (hc0 : 0 ≤ c) (hc : c < 65536) (h : movesZ op b c l size = (d, n, er)) : M9 op b c l size d n er := fun w hT => by
  have := moves_any op b c l size w hT hb0 hb hc0 hc
  rw [h] at this
  exact this
theorem mz_bad {op b c l size : Int} (h : size < 1 ∨ 4096 < size) : movesZ op b c l size = (0, 0, 1) := by
  unfold movesZ
  rw [if_pos (by omega)]
theorem mz_none {op b c l size : Int} (hP : properZ op b c l = true) (h1 : 1 ≤ size) (h2 : size ≤ 4096) (hm : manyZ op c l size = 0) : movesZ op b c l size = (0, 0, 0) := by
  unfold movesZ
  rw [if_neg (by rw [hP]; simp; omega), if_pos hm]
theorem mz_some {op b c l size m : Int} (hP : properZ op b c l = true) (h1 : 1 ≤ size) (h2 : size ≤ 4096) (hm : manyZ op c l size = m) (hm0 : m ≠ 0) : movesZ op b c l size = (dirZ op, m, 0) := by
  unfold movesZ
  rw [if_neg (by rw [hP]; simp; omega), if_neg (by rw [hm]; exact hm0), hm]
theorem tz_len {op b c l : Int} {p q : List UInt8} (hP : properZ op b c l = true) (ho : op = 3 ∨ op = 18) (hn : nameZ op = ⟨p.toArray⟩) (hq : q = p ++ [32]) : textZ op b c l = ⟨q.toArray⟩ ++ decB l.toNat := by
  unfold textZ
  rw [if_neg (by rw [hP]; decide), if_pos ho, hn, hq]
  exact str_inj (by simp)
theorem tz_blk {op b c l : Int} {p q : List UInt8} (hP : properZ op b c l = true) (ho : op = 40 ∨ op = 42 ∨ op = 53) (hn : nameZ op = ⟨p.toArray⟩) (hq : q = p ++ [32]) : textZ op b c l = ((⟨q.toArray⟩ ++ decB b.toNat) ++ ⟨#[32]⟩) ++ decB c.toNat := by
  unfold textZ
  rw [if_neg (by rw [hP]; decide), if_neg (by omega), if_pos ho, hn, hq]
  exact str_inj (by simp)
theorem moves_law (op b c l size : Int) (w : World) (hT : Tabs w) (hb0 : 0 ≤ b) (hb : b < 4294967296) (hc0 : 0 ≤ c) (hc : c < 65536) : Calls Tryd.prog 3 #[.agg #[.int .u8 op, .int .u32 b, .int .u16 c, .int .i64 l], .int .i64 size] w fun e w' => e = .returned (.bool true) ∧ Kept w w' := by
  have h10 : ∀ w, Tabs w → _ := fun w hT => text_any op b c l w hT hb0 hb hc0 hc
  have h12 : ∀ w, Tabs w → _ := fun w hT => proper_any op b c l w hT hb0 hb hc0 hc
  have h13 : ∀ w, _ := fun w => lawproper_any op b c l w hb0 hb hc0 hc
  cases hP : properZ op b c l with
  | false =>
    rw [hP] at h12 h13
    rw [show textZ op b c l = ⟨#[63]⟩ by unfold textZ; rw [if_pos hP]] at h10
    have h9 : M9 op b c l size 0 0 1 := m9_of hb0 hb hc0 hc (by unfold movesZ; rw [if_pos (Or.inl hP)])
    exact mv_bad op b c l size w hT h9 h10 (fun w hT => (encode_no op b c l w hT hb0 hb hc0 hc hP).mono fun e w' ⟨h1, h2⟩ => ⟨_, h1, rfl, h2⟩) h12 h13
  | true =>
    rw [hP] at h12 h13
    have h11 : ∀ w, Tabs w → Calls Tryd.prog 11 #[.agg #[.int .u8 op, .int .u32 b, .int .u16 c, .int .i64 l]] w fun e w' => ∃ vb, e = .returned (.tuple #[vb, .int .i64 0]) ∧ Kept w w' := fun w hT => (encode_yes op b c l w hT hb0 hb hc0 hc hP).mono fun e w' ⟨g, h1, _, _, h2⟩ => ⟨_, h1, h2⟩
    have hdb : ∀ w, _ := fun w => dec_int b w hb0 (by omega)
    have hdc : ∀ w, _ := fun w => dec_int c w hc0 (by omega)
    have hsb : (decB b.toNat).size ≤ 100 := decB_size (by omega)
    have hsc : (decB c.toNat).size ≤ 100 := decB_size (by omega)
    have hsl : 0 ≤ l → l ≤ 255 → (decB l.toNat).size ≤ 100 ∧ ∀ w, Calls Tryd.prog 15 #[.int .u64 l] w fun e w' => e = .returned (.string (decB l.toNat)) ∧ Kept w w' := fun h0 h1 => ⟨decB_size (by omega), fun w => dec_int l w h0 (by omega)⟩
    by_cases hs1 : size < 1
    · have h9 : M9 op b c l size 0 0 1 := m9_of hb0 hb hc0 hc (mz_bad (Or.inl hs1))
      rcases op_cases op with rfl | rfl | rfl | rfl | rfl | rfl | rfl | h
      · exact mv_ready_lo b c l size w hT hb0 hb hc0 hc hs1 h9 (by rw [show textZ 0 b c l = ⟨#[82, 69, 65, 68, 89]⟩ by unfold textZ; rw [hP]; rfl] at h10; exact h10) h11 h12 h13
      · have hl : 0 ≤ l ∧ l ≤ 255 := by simp [properZ] at hP; omega
        rw [tz_len (q := [65, 83, 75, 32]) hP (by omega) rfl rfl] at h10
        exact mv_ask_lo b c l size w hT hb0 hb hc0 hc _ hl.1 hl.2 (hsl hl.1 hl.2).1 (hsl hl.1 hl.2).2 hs1 h9 h10 h11 h12 h13
      · have hl : 0 ≤ l ∧ l ≤ 255 := by simp [properZ] at hP; omega
        rw [tz_len (q := [73, 68, 69, 78, 84, 73, 70, 89, 32]) hP (by omega) rfl rfl] at h10
        exact mv_ident_lo b c l size w hT hb0 hb hc0 hc _ hl.1 hl.2 (hsl hl.1 hl.2).1 (hsl hl.1 hl.2).2 hs1 h9 h10 h11 h12 h13
      · exact mv_size_lo b c l size w hT hb0 hb hc0 hc hs1 h9 (by rw [show textZ 37 b c l = ⟨#[83, 73, 90, 69]⟩ by unfold textZ; rw [hP]; rfl] at h10; exact h10) h11 h12 h13
      · rw [tz_blk (q := [82, 69, 65, 68, 32]) hP (by omega) rfl rfl] at h10
        exact mv_read_lo b c l size w hT hb0 hb hc0 hc _ _ hsb hsc hdb hdc hs1 h9 h10 h11 h12 h13
      · rw [tz_blk (q := [87, 82, 73, 84, 69, 32]) hP (by omega) rfl rfl] at h10
        exact mv_write_lo b c l size w hT hb0 hb hc0 hc _ _ hsb hsc hdb hdc hs1 h9 h10 h11 h12 h13
      · rw [tz_blk (q := [83, 89, 78, 67, 72, 82, 79, 78, 73, 90, 69, 32]) hP (by omega) rfl rfl] at h10
        exact mv_sync_lo b c l size w hT hb0 hb hc0 hc _ _ hsb hsc hdb hdc hs1 h9 h10 h11 h12 h13
      · have h' := properZ_none op h
        simp [properZ, h'] at hP
    by_cases hs2 : 4096 < size
    · have h9 : M9 op b c l size 0 0 1 := m9_of hb0 hb hc0 hc (mz_bad (Or.inr hs2))
      rcases op_cases op with rfl | rfl | rfl | rfl | rfl | rfl | rfl | h
      · exact mv_ready_hi b c l size w hT hb0 hb hc0 hc hs2 h9 (by rw [show textZ 0 b c l = ⟨#[82, 69, 65, 68, 89]⟩ by unfold textZ; rw [hP]; rfl] at h10; exact h10) h11 h12 h13
      · have hl : 0 ≤ l ∧ l ≤ 255 := by simp [properZ] at hP; omega
        rw [tz_len (q := [65, 83, 75, 32]) hP (by omega) rfl rfl] at h10
        exact mv_ask_hi b c l size w hT hb0 hb hc0 hc _ hl.1 hl.2 (hsl hl.1 hl.2).1 (hsl hl.1 hl.2).2 hs2 h9 h10 h11 h12 h13
      · have hl : 0 ≤ l ∧ l ≤ 255 := by simp [properZ] at hP; omega
        rw [tz_len (q := [73, 68, 69, 78, 84, 73, 70, 89, 32]) hP (by omega) rfl rfl] at h10
        exact mv_ident_hi b c l size w hT hb0 hb hc0 hc _ hl.1 hl.2 (hsl hl.1 hl.2).1 (hsl hl.1 hl.2).2 hs2 h9 h10 h11 h12 h13
      · exact mv_size_hi b c l size w hT hb0 hb hc0 hc hs2 h9 (by rw [show textZ 37 b c l = ⟨#[83, 73, 90, 69]⟩ by unfold textZ; rw [hP]; rfl] at h10; exact h10) h11 h12 h13
      · rw [tz_blk (q := [82, 69, 65, 68, 32]) hP (by omega) rfl rfl] at h10
        exact mv_read_hi b c l size w hT hb0 hb hc0 hc _ _ hsb hsc hdb hdc hs2 h9 h10 h11 h12 h13
      · rw [tz_blk (q := [87, 82, 73, 84, 69, 32]) hP (by omega) rfl rfl] at h10
        exact mv_write_hi b c l size w hT hb0 hb hc0 hc _ _ hsb hsc hdb hdc hs2 h9 h10 h11 h12 h13
      · rw [tz_blk (q := [83, 89, 78, 67, 72, 82, 79, 78, 73, 90, 69, 32]) hP (by omega) rfl rfl] at h10
        exact mv_sync_hi b c l size w hT hb0 hb hc0 hc _ _ hsb hsc hdb hdc hs2 h9 h10 h11 h12 h13
      · have h' := properZ_none op h
        simp [properZ, h'] at hP
    have hs1 : 1 ≤ size := by omega
    have hs2 : size ≤ 4096 := by omega
    have hcs0 : 0 ≤ size * c := Int.mul_nonneg (by omega) hc0
    have hcs1 : size * c ≤ 268431360 := Int.le_trans (Int.mul_le_mul (show size ≤ 4096 by omega) (show c ≤ 65535 by omega) (by omega) (by omega)) (by omega)
    have hcs2 : c ≠ 0 → 1 ≤ size * c := fun h => Int.le_trans (show (1 : Int) ≤ 1 * c by omega) (Int.mul_le_mul_of_nonneg_right (by omega) (by omega))
    rcases op_cases op with rfl | rfl | rfl | rfl | rfl | rfl | rfl | h
    · have hl : l = 0 := by simp [properZ] at hP; omega
      exact mv_ready b c l size w hT hb0 hb hc0 hc hs1 hs2 trivial (m9_of hb0 hb hc0 hc (mz_none hP hs1 hs2 (by simp [manyZ, hl]))) (by rw [show textZ 0 b c l = ⟨#[82, 69, 65, 68, 89]⟩ by unfold textZ; rw [hP]; rfl] at h10; exact h10) h11 h12 h13
    · have hl : 0 ≤ l ∧ l ≤ 255 := by simp [properZ] at hP; omega
      rw [tz_len (q := [65, 83, 75, 32]) hP (by omega) rfl rfl] at h10
      by_cases hz : l = 0
      · exact mv_ask_0 b c l size w hT hb0 hb hc0 hc _ hl.1 hl.2 (hsl hl.1 hl.2).1 (hsl hl.1 hl.2).2 hs1 hs2 hz (m9_of hb0 hb hc0 hc (mz_none hP hs1 hs2 (by simp [manyZ, hz]))) h10 h11 h12 h13
      · exact mv_ask b c l size w hT hb0 hb hc0 hc _ hl.1 hl.2 (hsl hl.1 hl.2).1 (hsl hl.1 hl.2).2 hs1 hs2 hz (m9_of hb0 hb hc0 hc (mz_some hP hs1 hs2 (by simp [manyZ]) hz)) h10 h11 h12 h13
    · have hl : 0 ≤ l ∧ l ≤ 255 := by simp [properZ] at hP; omega
      rw [tz_len (q := [73, 68, 69, 78, 84, 73, 70, 89, 32]) hP (by omega) rfl rfl] at h10
      by_cases hz : l = 0
      · exact mv_ident_0 b c l size w hT hb0 hb hc0 hc _ hl.1 hl.2 (hsl hl.1 hl.2).1 (hsl hl.1 hl.2).2 hs1 hs2 hz (m9_of hb0 hb hc0 hc (mz_none hP hs1 hs2 (by simp [manyZ, hz]))) h10 h11 h12 h13
      · exact mv_ident b c l size w hT hb0 hb hc0 hc _ hl.1 hl.2 (hsl hl.1 hl.2).1 (hsl hl.1 hl.2).2 hs1 hs2 hz (m9_of hb0 hb hc0 hc (mz_some hP hs1 hs2 (by simp [manyZ]) hz)) h10 h11 h12 h13
    · exact mv_size b c l size w hT hb0 hb hc0 hc hs1 hs2 trivial (m9_of hb0 hb hc0 hc (mz_some hP hs1 hs2 (by simp [manyZ]) (by decide))) (by rw [show textZ 37 b c l = ⟨#[83, 73, 90, 69]⟩ by unfold textZ; rw [hP]; rfl] at h10; exact h10) h11 h12 h13
    · rw [tz_blk (q := [82, 69, 65, 68, 32]) hP (by omega) rfl rfl] at h10
      by_cases hz : c = 0
      · exact mv_read_0 b c l size w hT hb0 hb hc0 hc _ _ hsb hsc hdb hdc hs1 hs2 hz (m9_of hb0 hb hc0 hc (mz_none hP hs1 hs2 (by simp [manyZ, hz]))) h10 h11 h12 h13
      · have := hcs2 hz
        exact mv_read b c l size w hT hb0 hb hc0 hc _ _ hsb hsc hdb hdc hs1 hs2 this hcs1 (m9_of hb0 hb hc0 hc (mz_some hP hs1 hs2 (by simp [manyZ, Int.mul_comm]) (by omega))) h10 h11 h12 h13
    · rw [tz_blk (q := [87, 82, 73, 84, 69, 32]) hP (by omega) rfl rfl] at h10
      by_cases hz : c = 0
      · exact mv_write_0 b c l size w hT hb0 hb hc0 hc _ _ hsb hsc hdb hdc hs1 hs2 hz (m9_of hb0 hb hc0 hc (mz_none hP hs1 hs2 (by simp [manyZ, hz]))) h10 h11 h12 h13
      · have := hcs2 hz
        exact mv_write b c l size w hT hb0 hb hc0 hc _ _ hsb hsc hdb hdc hs1 hs2 this hcs1 (m9_of hb0 hb hc0 hc (mz_some hP hs1 hs2 (by simp [manyZ, Int.mul_comm]) (by omega))) h10 h11 h12 h13
    · have hl : l = 0 := by simp [properZ] at hP; omega
      rw [tz_blk (q := [83, 89, 78, 67, 72, 82, 79, 78, 73, 90, 69, 32]) hP (by omega) rfl rfl] at h10
      exact mv_sync b c l size w hT hb0 hb hc0 hc _ _ hsb hsc hdb hdc hs1 hs2 (m9_of hb0 hb hc0 hc (mz_none hP hs1 hs2 (by simp [manyZ, hl]))) h10 h11 h12 h13
    · have h' := properZ_none op h
      simp [properZ, h'] at hP
end Go.Proofs.YtfojemocffelhaaDoor
