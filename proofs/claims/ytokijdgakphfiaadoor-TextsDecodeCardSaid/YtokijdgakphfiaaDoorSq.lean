
/- Decode over descriptors of numbers; what a drawn region knows of a string of bytes. -/
import Derived.Test.YtokijdgakphfiaaDoorChecked
import Derived.Deep.RegionHeld3
import Derived.Deep.DrawnRows
import Derived.Deep.DeepCutAuto
import Derived.Deep.LoopGhost
import Derived.Outline
import Derived.Handy
import Derived.Test.YtokijdgakphfiaaDoorSp
namespace Go.Proofs.YtokijdgakphfiaaDoor
open Go.RowKit

theorem told_width {us : List Nat} (h : us.length ≤ 126) : ¬ badWidth (toldL us) := by
  have h1 := toldL_len us
  have h2 : ((toldL us).getD 0 0).toNat = 2 + 2 * us.length := by
    show (UInt8.ofNat (2 + 2 * us.length)).toNat = _
    rw [UInt8.toNat_ofNat']; omega
  unfold badWidth
  rw [h1, h2]; omega
theorem told_three (us : List Nat) : (toldL us).getD 1 0 = 3 := rfl
theorem told_nums {us : List Nat} (h : ∀ u ∈ us, u < 65536) : numsL ((toldL us).drop 2) = us := nums_pairs us h
theorem dec_yes (A : Option Addr) (n c : Nat) (us l : List Nat) (w : World) (hn : us.length ≤ 126) (hu : ∀ u ∈ us, u < 65536) (hb : Sl byT w (low w.heap.size) A n (toldL us)) (hj : joinU us = some l) :
    Calls Tryd.prog 15 #[.slice A n c] w fun e w' => e = .returned (.tuple #[.string (textB l), .int .i64 0]) ∧ Kept w w' := by
  have hl := hb.1
  rw [toldL_len] at hl
  refine (dec_any A n c _ w (by omega) hb).mono ?_
  rintro e w' (⟨h1, _⟩ | ⟨_, h2 | h2, _⟩ | ⟨_, _, l', h2, h3⟩)
  · exact absurd h1 (told_width hn)
  · exact absurd (told_three us) h2
  · rw [told_nums hu, hj] at h2; cases h2
  · rw [told_nums hu, hj] at h2; cases h2; exact h3
theorem dec_no (A : Option Addr) (n c : Nat) (us : List Nat) (w : World) (hn : us.length ≤ 126) (hu : ∀ u ∈ us, u < 65536) (hb : Sl byT w (low w.heap.size) A n (toldL us)) (hj : joinU us = none) :
    Calls Tryd.prog 15 #[.slice A n c] w fun e w' => e = .returned (.tuple #[.string ⟨#[]⟩, .int .i64 4]) ∧ Kept w w' := by
  have hl := hb.1
  rw [toldL_len] at hl
  refine (dec_any A n c _ w (by omega) hb).mono ?_
  rintro e w' (⟨h1, _⟩ | ⟨_, _, h3⟩ | ⟨_, _, l', h2, h3⟩)
  · exact absurd h1 (told_width hn)
  · exact h3
  · rw [told_nums hu, hj] at h2; cases h2

/-- what a drawn region knows: the bytes of a block are a string; all that was there is as it was -/
def ConvS (g n : Nat) (bs : List UInt8) (W w : World) : Prop := Fill w g 5 n (.int .u8 0) (u8C bs) ∧ Kept W w
theorem conv_start {g n : Nat} {bs : List UInt8} {W : World} (h : Fill W g 5 n (.int .u8 0) (u8C bs)) (hl : bs.length = n) :
    (convert 30 9 (.slice (some ⟨g, 0, none⟩) n n)).run Tryd.prog W.drew = .ok (.string ⟨bs.toArray⟩) W.drew ∧ ConvS g n bs W W.drew :=
  ⟨fill_string (h.kept (Below.refl _ _).drew) hl n, h.kept (Below.refl _ _).drew, (Below.refl _ _).drew⟩
theorem conv_keep {g n : Nat} {bs : List UInt8} {W w w1 : World} (h : (convert 30 9 (.slice (some ⟨g, 0, none⟩) n n)).run Tryd.prog w = .ok (.string ⟨bs.toArray⟩) w ∧ ConvS g n bs W w) (hl : bs.length = n) (hk : Kept w w1) :
    (convert 30 9 (.slice (some ⟨g, 0, none⟩) n n)).run Tryd.prog w1 = .ok (.string ⟨bs.toArray⟩) w1 ∧ ConvS g n bs W w1 :=
  ⟨fill_string (h.2.1.kept hk) hl n, h.2.1.kept hk, h.2.2.trans' hk⟩
theorem conv_kept {g n : Nat} {bs : List UInt8} {W w : World} (h : (convert 30 9 (.slice (some ⟨g, 0, none⟩) n n)).run Tryd.prog w = .ok (.string ⟨bs.toArray⟩) w ∧ ConvS g n bs W w) : Kept W w := h.2.2
theorem lives_conv {g n : Nat} {bs : List UInt8} {W w : World} (hT : Tabs W) (h : (convert 30 9 (.slice (some ⟨g, 0, none⟩) n n)).run Tryd.prog w = .ok (.string ⟨bs.toArray⟩) w ∧ ConvS g n bs W w) :
    Calls Tryd.prog 10 #[] w fun e w' => e = .returned (.bool true) ∧ Kept w w' := lives_any w (hT.below h.2.2)
theorem told_conv {g n : Nat} {bs : List UInt8} {W w : World} {A : Option Addr} {m c : Nat} {us : List Nat} (hm : m ≤ 1000) (hu : Sl u16T W (low W.heap.size) A m us) (h : (convert 30 9 (.slice (some ⟨g, 0, none⟩) n n)).run Tryd.prog w = .ok (.string ⟨bs.toArray⟩) w ∧ ConvS g n bs W w) :
    Calls Tryd.prog 16 #[.slice A m c] w fun e w' => e = .returned (.string ⟨(toldL us).toArray⟩) ∧ Kept w w' := told_any A m c us w hm (hu.kept h.2.2)
end Go.Proofs.YtokijdgakphfiaaDoor
