
/- CommandsBack together. -/
import Derived.Test.YtfojemocffelhaaDoorChecked
import Derived.Deep.RegionHeld3
import Derived.Deep.DrawnRows
import Derived.Deep.DeepCutAuto
import Derived.Deep.LoopGhost
import Derived.Outline
import Derived.Handy
import Derived.Test.YtfojemocffelhaaDoorLs
import Derived.Test.YtfojemocffelhaaDoorLt
namespace Go.Proofs.YtfojemocffelhaaDoor
open Go.RowKit

theorem back_law (a b c more bit : Int) (w : World) (hT : Tabs w) (ha0 : 0 ≤ a) (ha : a < 256) (hb0 : 0 ≤ b) (hb : b < 4294967296) (hc0 : 0 ≤ c) (hc : c < 65536) (hm0 : 0 ≤ more) (hm : more < 256) (hi0 : 0 ≤ bit) (hi : bit < 256) :
    Calls Tryd.prog 5 #[.agg #[.int .u8 a, .int .u32 b, .int .u16 c], .int .u8 more, .int .u8 bit] w fun e w' => e = .returned (.bool true) ∧ Kept w w' := by
  obtain ⟨op, b', c', l, hP, hb0', hb', hc0', hc', hOf⟩ := of_any a b c ha0 ha hc0 hc hb0 hb
  have hw := wid_pos hP
  have hl := bytesZ_len hP
  have h11 : Enc op b' c' l (widZ op) (bytesZ op b' c' l) := enc_of hb0' hb' hc0' hc' hP rfl
  have h12 : ∀ w, Tabs w → _ := fun w hT => proper_any op b' c' l w hT hb0' hb' hc0' hc'
  rw [hP] at h12
  have h19 : ∀ w, _ := fun w => lawbytes op b' c' l w hb0' hb' hc0' hc' hP
  have hM : more.tmod 20 = ((more % 20).toNat : Int) := by rw [Int.tmod_eq_emod_of_nonneg hm0]; omega
  have hPb : bit.tmod (8 * ((widZ op : Nat) : Int)) = ((bit % (8 * (widZ op : Int))).toNat : Int) := by
    have := Int.emod_nonneg bit (show (8 * (widZ op : Int)) ≠ 0 by omega)
    rw [Int.tmod_eq_emod_of_nonneg hi0]
    omega
  have hP8 : (bit % (8 * (widZ op : Int))).toNat < 8 * widZ op := by
    have := Int.emod_lt_of_pos bit (show 0 < 8 * (widZ op : Int) by omega)
    omega
  have hdO : ∀ (O : List UInt8) w g cp, Tabs w → Bs w g 0 O → O.length = widZ op → widZ op ≤ cp → Calls Tryd.prog 20 #[.slice (some ⟨g, 0, none⟩) (widZ op) cp] w fun e w' => e = .returned (.tuple #[decV O, .int .i64 (errD O)]) ∧ Kept w w' := fun O w g cp hT hB hO hc => decode_any _ _ cp O w hT (hB.sl hO) hc
  have hother : ∀ O : List UInt8, O.length = widZ op → O ≠ bytesZ op b' c' l → errD O = 0 → ∃ (op2 b2 c2 l2 : Int) (K2 : Nat), decV O = .agg #[.int .u8 op2, .int .u32 b2, .int .u16 c2, .int .i64 l2] ∧ ¬ (op2 = op ∧ b2 = b' ∧ c2 = c' ∧ l2 = l) ∧ Enc op2 b2 c2 l2 K2 (O.take K2) ∧ K2 ≤ widZ op ∧ (O.take K2).length = K2 := fun O hO hne he => by
    obtain ⟨h1, h2, h3, h4⟩ := err_other hP hb0' hb' hc0' hc' O (by rw [hO, hl]) hne he
    refine ⟨_, _, _, _, widZ (opD O), dec_some he, h4, ?_, by omega, by rw [List.length_take]; omega⟩
    rw [← h2]
    exact enc_of (blk_bd O).1 (blk_bd O).2 (cnt_bd O).1 (cnt_bd O).2 h1 rfl
  have hz : ∀ (i : Nat) (hi : i < widZ op), decV ((bytesZ op b' c' l).take i) = .agg #[.int .u8 0, .int .u32 0, .int .u16 0, .int .i64 0] := fun i hi => dec_zero (by rw [err_take hP hb0' hb' hc0' hc' i (by omega)]; split <;> decide)
  have hdP0 : ∀ w g, Tabs w → Calls Tryd.prog 20 #[.slice (some ⟨g, 0, none⟩) 0 (widZ op)] w fun e w' => e = .returned (.tuple #[.agg #[.int .u8 0, .int .u32 0, .int .u16 0, .int .i64 0], .int .i64 4]) ∧ Kept w w' := fun w g hT =>
    decode_any (some ⟨g, 0, none⟩) 0 (widZ op) [] w hT (Sl.nil _ _ _ _) (Nat.zero_le _)
  have hdP1 : ∀ w g i, Tabs w → 0 < i → i < widZ op → Bs w g 0 (bytesZ op b' c' l) → Calls Tryd.prog 20 #[.slice (some ⟨g, 0, none⟩) i (widZ op)] w fun e w' => e = .returned (.tuple #[.agg #[.int .u8 0, .int .u32 0, .int .u16 0, .int .i64 0], .int .i64 5]) ∧ Kept w w' := fun w g i hT h0 hi hB => by
    have h := decode_any (some ⟨g, 0, none⟩) i (widZ op) ((bytesZ op b' c' l).take i) w hT ((hB.take i).sl (by rw [List.length_take]; omega)) (by omega)
    rw [hz i hi, err_take hP hb0' hb' hc0' hc' i (by omega), if_neg (by omega)] at h
    exact h
  by_cases h16 : 16 < widZ op + (more % 20).toNat
  · have hdL : ∀ w A n cp, Tabs w → Sl byT w (low w.heap.size) A n (bytesZ op b' c' l ++ List.replicate (more % 20).toNat 0) → n ≤ cp → Calls Tryd.prog 20 #[.slice A n cp] w fun e w' => e = .returned (.tuple #[.agg #[.int .u8 0, .int .u32 0, .int .u16 0, .int .i64 0], .int .i64 5]) ∧ Kept w w' := fun w A n cp hT hs hc => by
      have h := decode_any A n cp _ w hT hs hc
      have he := err_long hP hb0' hb' hc0' hc' (more % 20).toNat
      rw [if_pos (by omega)] at he
      rw [dec_zero (by rw [he]; decide), he] at h
      exact h
    exact bk_5 op b' c' l a b c more bit (widZ op) _ _ (bytesZ op b' c' l) w hT hl hw.1 hw.2 hM (by omega) hm0 hm hi0 hi hPb hP8 hOf h11 h12 h19 hdL hdO hother hdP0 hdP1 h16
  · have hdL : ∀ w A n cp, Tabs w → Sl byT w (low w.heap.size) A n (bytesZ op b' c' l ++ List.replicate (more % 20).toNat 0) → n ≤ cp → Calls Tryd.prog 20 #[.slice A n cp] w fun e w' => e = .returned (.tuple #[.agg #[.int .u8 op, .int .u32 b', .int .u16 c', .int .i64 l], .int .i64 0]) ∧ Kept w w' := fun w A n cp hT hs hc => by
      have h := decode_any A n cp _ w hT hs hc
      have he := err_long hP hb0' hb' hc0' hc' (more % 20).toNat
      rw [if_neg (by omega)] at he
      rw [dec_long hP hb0' hb' hc0' hc' _ (by omega), he] at h
      exact h
    exact bk_0 op b' c' l a b c more bit (widZ op) _ _ (bytesZ op b' c' l) w hT hl hw.1 hw.2 hM (by omega) hm0 hm hi0 hi hPb hP8 hOf h11 h12 h19 hdL hdO hother hdP0 hdP1 (by omega)
end Go.Proofs.YtfojemocffelhaaDoor
