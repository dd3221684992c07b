
/- The text of numbers. The list reads as numbers of 32 bits. -/
import Derived.Test.YtokijdgakphfiaaDoorChecked
import Derived.Deep.RegionHeld3
import Derived.Deep.DrawnRows
import Derived.Deep.DeepCutAuto
import Derived.Deep.LoopGhost
import Derived.Outline
import Derived.Handy
import Derived.Laws.Concat
import Derived.Test.YtokijdgakphfiaaDoorSe
namespace Go.Proofs.YtokijdgakphfiaaDoor
open Go.RowKit
attribute [local go_sem ↓] Go.wp_at_zero Go.wp_at_succ

def u32T : Ty Nat := Ty.flat 1 (fun n : Nat => [.int .u32 (n : Int)]) (fun n => n < 4294967296) (fun _ => rfl)
theorem u32_at {w w' : World} {B n k : Nat} {A : Option Addr} {l : List Nat} (h : Sl u32T w (low B) A n l) (hb : Below B w w') (hk : k < n) : ∃ x b off, l[k]? = some x ∧ A = some ⟨b, off, none⟩ ∧ b < B ∧ b < w'.heap.size ∧ x < 4294967296 ∧
    w'.cell? ⟨b, off + k, none⟩ = some (.int .u32 (x : Int)) := by
  obtain ⟨x, b, off, cs, hx, hA, hbb, ⟨rfl, h1⟩, hc⟩ := h.at hk
  have hc' := range_below hc hb hbb
  have h0 := hc' 0 _ rfl
  simp only [u32T, Ty.flat, Nat.mul_one, Nat.add_zero] at h0
  exact ⟨x, b, off, hx, hA, hbb, World.block_lt_of_cell? w' _ h0, h1, h0⟩
theorem textL_size : ∀ l : List Nat, (textL l).length ≤ 4 * l.length
  | [] => by simp [textL_nil]
  | n :: l => by
    have h := textL_size l
    have h2 := encN_pos n
    rw [textL_cons, List.length_append, encL_length, List.length_cons]; omega
theorem textB_size (l : List Nat) : (textB l).size ≤ 4 * l.length := by
  rw [Lib.size_eq, textB_list]; exact textL_size l
set_option maxRecDepth 100000 in
theorem text_any (A : Option Addr) (n c : Nat) (l : List Nat) (w : World) (hn : n ≤ 1000) (hl : Sl u32T w (low w.heap.size) A n l) :
    Calls Tryd.prog 12 #[.slice A n c] w fun e w' => e = .returned (.string (textB (l.map charN))) ∧ Kept w w' := by
  have hll := hide hl.1
  go_enter Tryd.func12, Tryd.ntmps12
  go_wp2_with fail
  go_loopg [3, 4] n (fun g s3 s4 wr => ∃ k : Nat, k + g = n ∧ s4 = .int .i64 k ∧ ∃ s, s3 = .string s ∧ Hid (s = textB ((l.take k).map charN)) ∧ w = wr)
  case atStart => exact ⟨0, by omega, rfl, _, rfl, hide rfl, rfl⟩
  case round =>
    obtain ⟨k, hk, rfl, s, rfl, Hs, rfl⟩ := hrel
    have Hk := hide hk
    have hkn : k ≤ n := by omega
    clear hk
    by_cases hlt : k < n
    · obtain ⟨x, b, off, hx, rfl, hbw, hbr, hx6, e0⟩ := u32_at hl (Below.refl _ _) hlt
      have hch := hide (char_any x w hx6)
      obtain ⟨z, hz⟩ : ∃ z : Int, z = (x : Int) := ⟨_, rfl⟩
      obtain ⟨cz, hcz⟩ : ∃ z : Int, z = ((charN x : Nat) : Int) := ⟨_, rfl⟩
      rw [← hz, ← hcz] at hch
      rw [← hz] at e0
      have hss : s.size ≤ 4 * k := by
        have h := textB_size ((l.take k).map charN)
        rw [List.length_map, List.length_take] at h
        rw [Hs.out]; omega
      have hes := encode_size_le cz
      have Hx := hide hx
      have Hcz := hide hcz
      have hadd : ∀ W : World, (Op.stringOp .add s (Utf8.encode cz)).run Tryd.prog W = .ok (.string (s ++ Utf8.encode cz)) W := fun W => run_string_add_sum W s (Utf8.encode cz) (by omega)
      clear hx hx6 hz hcz
      have hlt' : (k : Int) < (n : Int) := by omega
      have hk0 : (0 : Int) ≤ (k : Int) := by omega
      go_wp2_with (go_at_call 22; refine hch.out.mono ?_; rintro e w1 ⟨rfl, rfl⟩)
      go_roundg (gk - 1)
      case measure => have := Hk.out; omega
      case rel =>
        refine ⟨k + 1, by have := Hk.out; omega, by go_num, s ++ Utf8.encode cz, by go_simp, ?_, rfl⟩
        rw [map_take_succ Hx.out]
        refine hide ?_
        rw [textB_snoc (charN_ok x), ← Hs.out, Hcz.out]
    · have hfin := hide (show textB ((l.take k).map charN) = textB (l.map charN) by rw [List.take_of_length_le (by have := hll.out; omega)])
      have hlt' : (n : Int) ≤ (k : Int) := by omega
      go_wp2_with fail
      go_ret
      exact ⟨by rw [← hfin.out, ← Hs.out]; rfl, Below.refl _ _⟩
end Go.Proofs.YtokijdgakphfiaaDoor
