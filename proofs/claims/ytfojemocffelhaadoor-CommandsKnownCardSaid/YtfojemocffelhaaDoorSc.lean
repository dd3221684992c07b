
/- put: a number's bytes, the greatest first. -/
import Derived.Test.YtfojemocffelhaaDoorChecked
import Derived.Deep.RegionHeld3
import Derived.Deep.DrawnRows
import Derived.Deep.DeepCutAuto
import Derived.Deep.LoopGhost
import Derived.Outline
import Derived.Handy
import Derived.OwnWalk
import Derived.Test.YtfojemocffelhaaDoorOp
import Derived.Test.YtfojemocffelhaaDoorTa
set_option linter.unusedVariables false
set_option linter.unusedSimpArgs false
set_option linter.unusedSectionVars false
namespace Go.Proofs.YtfojemocffelhaaDoor
open Go.RowKit
attribute [local go_sem ↓] Go.wp_at_zero Go.wp_at_succ

def byT : Ty UInt8 := Ty.flat 1 (fun b : UInt8 => [.int .u8 (b.toNat : Int)]) (fun _ => True) (fun _ => rfl)
theorem info5 : (Tryd.prog.info? 5).map (fun i => (i.zero, i.size, i.bytes)) = some (some (.int .u8 0), 1, 1) := by kernel_rfl
theorem info_parts {t : TypeId} {z : Option Value} {s b : Nat} (h : (Tryd.prog.info? t).map (fun i => (i.zero, i.size, i.bytes)) = some (z, s, b)) : ∃ i, Tryd.prog.info? t = some i ∧ i.zero = z ∧ i.size = s ∧ i.bytes = b := by
  cases hi : Tryd.prog.info? t with
  | none => rw [hi] at h; cases h
  | some i => rw [hi] at h; simp at h; exact ⟨i, rfl, h.1, h.2.1, h.2.2⟩
/-- byte number k of a number -/
def byteOf (n k : Nat) : UInt8 := UInt8.ofNat (n / 256 ^ k)
def beN (n : Nat) : Nat → List UInt8
  | 0 => []
  | k + 1 => byteOf n k :: beN n k
def be4 (n : Nat) : List UInt8 := [byteOf n 3, byteOf n 2, byteOf n 1, byteOf n 0]
def be2 (n : Nat) : List UInt8 := [byteOf n 1, byteOf n 0]
theorem byteOf_int (n k : Nat) : ((byteOf n k).toNat : Int) = (n : Int) / 256 ^ k % 256 := by
  unfold byteOf
  rw [UInt8.toNat_ofNat']
  simp
theorem byte3 {n : Nat} (h : n < 4294967296) : ((byteOf n 3).toNat : Int) = (n : Int) / 16777216 := by rw [byteOf_int]; show (n : Int) / 16777216 % 256 = _; omega
theorem byte2 (n : Nat) : ((byteOf n 2).toNat : Int) = (n : Int) / 65536 % 256 := by rw [byteOf_int]; rfl
theorem byte1 (n : Nat) : ((byteOf n 1).toNat : Int) = (n : Int) / 256 % 256 := by rw [byteOf_int]; rfl
theorem byte1' {n : Nat} (h : n < 65536) : ((byteOf n 1).toNat : Int) = (n : Int) / 256 := by rw [byteOf_int]; show (n : Int) / 256 % 256 = _; omega
theorem byte0 (n : Nat) : ((byteOf n 0).toNat : Int) = (n : Int) % 256 := by rw [byteOf_int]; show (n : Int) / 1 % 256 = _; omega

set_option maxRecDepth 100000 in
set_option maxHeartbeats 1000000 in
theorem put4 (v : Value) (m : Nat) (xs : List UInt8) (n : Nat) (base : Nat) (w : World) (hn : n < 4294967296) (hm : m ≤ 1000) (hown : Own byT 5 base w v m xs) (hbase : base ≤ w.heap.size) :
    Calls Tryd.prog 30 #[v, .int .u32 n, .int .i64 4] w fun e w' => ∃ v', e = .returned v' ∧ Own byT 5 base w' v' (m + 4) (xs ++ be4 n) ∧ Below base w w' := by
  obtain ⟨i5, hi5, hz50, hz51, hz52⟩ := info_parts info5
  go_enter Tryd.func30, Tryd.ntmps30
  go_wp2_with fail
  go_loopg [0, 7] 4 (fun g s0 s7 wr => ∃ k : Nat, k + g = 4 ∧ s7 = .int .i64 (3 - (k : Int)) ∧ Own byT 5 base wr s0 (m + k) (xs ++ (be4 n).take k) ∧ Below base w wr)
  case atStart => exact ⟨0, by omega, by rfl, by simpa using hown, Below.refl _ _⟩
  case round =>
    obtain ⟨k, hk, rfl, hown, hkw⟩ := hrel
    have hsz := hkw.size
    by_cases h0 : k = 0
    · subst h0
      go_wp2_with (at_builtin; refine wpList_append_el (T := byT) rfl (.tmp 14) (.tmp 20) 32 rfl base 5 i5 _ 1 Tryd.underlying32 hi5 hz50 hz51 hz52 rfl (by decide) u0 (m + 0) _ (by rfl) (hown.alloc _) _ _ _ (byteOf n 3) (by rfl) (heap_alloc_new wr _) ⟨by show [Value.int .u8 _] = [Value.int .u8 ((byteOf n 3).toNat : Int)]; rw [byte3 hn], trivial⟩ (by simp [Value.oneCell']) (by unfold maxLen; omega) (by omega) (by simp only [World.size_alloc]; omega) ?_; intro g4 cap4 w4 hown4 hg4 hb4 hat4 hlt4)
      go_roundg (gk - 1)
      case measure => omega
      case rel => exact ⟨0 + 1, by omega, by go_num, by rw [List.append_assoc] at hown4; exact hown4, (hkw.alloc (by omega) _).trans hb4⟩
    · skip
      by_cases h1 : k = 1
      · subst h1
        go_wp2_with (at_builtin; refine wpList_append_el (T := byT) rfl (.tmp 14) (.tmp 20) 32 rfl base 5 i5 _ 1 Tryd.underlying32 hi5 hz50 hz51 hz52 rfl (by decide) u0 (m + 1) _ (by rfl) (hown.alloc _) _ _ _ (byteOf n 2) (by rfl) (heap_alloc_new wr _) ⟨by show [Value.int .u8 _] = [Value.int .u8 ((byteOf n 2).toNat : Int)]; rw [byte2 n], trivial⟩ (by simp [Value.oneCell']) (by unfold maxLen; omega) (by omega) (by simp only [World.size_alloc]; omega) ?_; intro g4 cap4 w4 hown4 hg4 hb4 hat4 hlt4)
        go_roundg (gk - 1)
        case measure => omega
        case rel => exact ⟨1 + 1, by omega, by go_num, by rw [List.append_assoc] at hown4; exact hown4, (hkw.alloc (by omega) _).trans hb4⟩
      · skip
        by_cases h2 : k = 2
        · subst h2
          go_wp2_with (at_builtin; refine wpList_append_el (T := byT) rfl (.tmp 14) (.tmp 20) 32 rfl base 5 i5 _ 1 Tryd.underlying32 hi5 hz50 hz51 hz52 rfl (by decide) u0 (m + 2) _ (by rfl) (hown.alloc _) _ _ _ (byteOf n 1) (by rfl) (heap_alloc_new wr _) ⟨by show [Value.int .u8 _] = [Value.int .u8 ((byteOf n 1).toNat : Int)]; rw [byte1 n], trivial⟩ (by simp [Value.oneCell']) (by unfold maxLen; omega) (by omega) (by simp only [World.size_alloc]; omega) ?_; intro g4 cap4 w4 hown4 hg4 hb4 hat4 hlt4)
          go_roundg (gk - 1)
          case measure => omega
          case rel => exact ⟨2 + 1, by omega, by go_num, by rw [List.append_assoc] at hown4; exact hown4, (hkw.alloc (by omega) _).trans hb4⟩
        · skip
          by_cases h3 : k = 3
          · subst h3
            go_wp2_with (at_builtin; refine wpList_append_el (T := byT) rfl (.tmp 14) (.tmp 20) 32 rfl base 5 i5 _ 1 Tryd.underlying32 hi5 hz50 hz51 hz52 rfl (by decide) u0 (m + 3) _ (by rfl) (hown.alloc _) _ _ _ (byteOf n 0) (by rfl) (heap_alloc_new wr _) ⟨by show [Value.int .u8 _] = [Value.int .u8 ((byteOf n 0).toNat : Int)]; rw [byte0 n], trivial⟩ (by simp [Value.oneCell']) (by unfold maxLen; omega) (by omega) (by simp only [World.size_alloc]; omega) ?_; intro g4 cap4 w4 hown4 hg4 hb4 hat4 hlt4)
            go_roundg (gk - 1)
            case measure => omega
            case rel => exact ⟨3 + 1, by omega, by go_num, by rw [List.append_assoc] at hown4; exact hown4, (hkw.alloc (by omega) _).trans hb4⟩
          · skip
            have hk4 : k = 4 := by omega
            subst hk4
            have hown := hown
            go_wp2
            go_ret
            exact ⟨_, rfl, hown, hkw⟩
set_option maxRecDepth 100000 in
set_option maxHeartbeats 1000000 in
theorem put2 (v : Value) (m : Nat) (xs : List UInt8) (n : Nat) (base : Nat) (w : World) (hn : n < 65536) (hm : m ≤ 1000) (hown : Own byT 5 base w v m xs) (hbase : base ≤ w.heap.size) :
    Calls Tryd.prog 31 #[v, .int .u16 n, .int .i64 2] w fun e w' => ∃ v', e = .returned v' ∧ Own byT 5 base w' v' (m + 2) (xs ++ be2 n) ∧ Below base w w' := by
  obtain ⟨i5, hi5, hz50, hz51, hz52⟩ := info_parts info5
  go_enter Tryd.func31, Tryd.ntmps31
  go_wp2_with fail
  go_loopg [0, 7] 2 (fun g s0 s7 wr => ∃ k : Nat, k + g = 2 ∧ s7 = .int .i64 (1 - (k : Int)) ∧ Own byT 5 base wr s0 (m + k) (xs ++ (be2 n).take k) ∧ Below base w wr)
  case atStart => exact ⟨0, by omega, by rfl, by simpa using hown, Below.refl _ _⟩
  case round =>
    obtain ⟨k, hk, rfl, hown, hkw⟩ := hrel
    have hsz := hkw.size
    by_cases h0 : k = 0
    · subst h0
      go_wp2_with (at_builtin; refine wpList_append_el (T := byT) rfl (.tmp 14) (.tmp 20) 32 rfl base 5 i5 _ 1 Tryd.underlying32 hi5 hz50 hz51 hz52 rfl (by decide) u0 (m + 0) _ (by rfl) (hown.alloc _) _ _ _ (byteOf n 1) (by rfl) (heap_alloc_new wr _) ⟨by show [Value.int .u8 _] = [Value.int .u8 ((byteOf n 1).toNat : Int)]; rw [byte1' hn], trivial⟩ (by simp [Value.oneCell']) (by unfold maxLen; omega) (by omega) (by simp only [World.size_alloc]; omega) ?_; intro g4 cap4 w4 hown4 hg4 hb4 hat4 hlt4)
      go_roundg (gk - 1)
      case measure => omega
      case rel => exact ⟨0 + 1, by omega, by go_num, by rw [List.append_assoc] at hown4; exact hown4, (hkw.alloc (by omega) _).trans hb4⟩
    · skip
      by_cases h1 : k = 1
      · subst h1
        go_wp2_with (at_builtin; refine wpList_append_el (T := byT) rfl (.tmp 14) (.tmp 20) 32 rfl base 5 i5 _ 1 Tryd.underlying32 hi5 hz50 hz51 hz52 rfl (by decide) u0 (m + 1) _ (by rfl) (hown.alloc _) _ _ _ (byteOf n 0) (by rfl) (heap_alloc_new wr _) ⟨by show [Value.int .u8 _] = [Value.int .u8 ((byteOf n 0).toNat : Int)]; rw [byte0 n], trivial⟩ (by simp [Value.oneCell']) (by unfold maxLen; omega) (by omega) (by simp only [World.size_alloc]; omega) ?_; intro g4 cap4 w4 hown4 hg4 hb4 hat4 hlt4)
        go_roundg (gk - 1)
        case measure => omega
        case rel => exact ⟨1 + 1, by omega, by go_num, by rw [List.append_assoc] at hown4; exact hown4, (hkw.alloc (by omega) _).trans hb4⟩
      · skip
        have hk4 : k = 2 := by omega
        subst hk4
        have hown := hown
        go_wp2
        go_ret
        exact ⟨_, rfl, hown, hkw⟩
end Go.Proofs.YtfojemocffelhaaDoor
