
/- Characters and their units. The numbers are those of their types. -/
import Derived.Test.YtokijdgakphfiaaDoorChecked
import Derived.Deep.RegionHeld3
import Derived.Deep.DrawnRows
import Derived.Deep.DeepCutAuto
import Derived.Deep.LoopGhost
import Derived.Outline
import Derived.Handy
import Derived.OwnWalk
import Derived.Test.YtokijdgakphfiaaDoorTd
import Derived.Test.YtokijdgakphfiaaDoorPe
namespace Go.Proofs.YtokijdgakphfiaaDoor
open Go.RowKit
attribute [local go_sem ↓] Go.wp_at_zero Go.wp_at_succ

def u16C (l : List Nat) : List Value := l.map (fun n : Nat => Value.int .u16 (n : Int))
def u8C (l : List UInt8) : List Value := l.map (fun b => Value.int .u8 (b.toNat : Int))

/-- the same over integers -/
def charZ (z : Int) : Int := if 55296 ≤ z % 1114112 ∧ z % 1114112 < 57344 then z % 1114112 - 2048 else z % 1114112
theorem charZ_eq (n : Nat) : charZ (n : Int) = ((charN n : Nat) : Int) := by
  unfold charZ charN
  by_cases h : 55296 ≤ n % 1114112 ∧ n % 1114112 < 57344
  · rw [if_pos h, if_pos (by omega)]; omega
  · rw [if_neg h, if_neg (by omega)]; omega
set_option maxRecDepth 100000 in
theorem char_anyZ (z : Int) (w : World) (h0 : 0 ≤ z) (h : z < 4294967296) : Calls Tryd.prog 22 #[.int .u32 z] w fun e w' => e = .returned (.int .i32 (charZ z)) ∧ w' = w := by
  have hm : z % 1114112 < 1114112 := Int.emod_lt_of_pos _ (by decide)
  have hm0 : 0 ≤ z % 1114112 := Int.emod_nonneg _ (by decide)
  by_cases h1 : 55296 ≤ z % 1114112
  · by_cases h2 : z % 1114112 < 57344
    · have hr := hide (show charZ z = z % 1114112 - 2048 by unfold charZ; rw [if_pos ⟨h1, h2⟩])
      go_enter Tryd.func22, Tryd.ntmps22
      go_wp2
      go_ret
      exact ⟨by rw [hr.out]; rfl, rfl⟩
    · have hr := hide (show charZ z = z % 1114112 by unfold charZ; rw [if_neg (fun h => h2 h.2)])
      have h2' : 57344 ≤ z % 1114112 := by omega
      clear h2
      go_enter Tryd.func22, Tryd.ntmps22
      go_wp2
      go_ret
      exact ⟨by rw [hr.out]; rfl, rfl⟩
  · have hr := hide (show charZ z = z % 1114112 by unfold charZ; rw [if_neg (fun h => h1 h.1)])
    have h1' : z % 1114112 < 55296 := by omega
    clear h1
    go_enter Tryd.func22, Tryd.ntmps22
    go_wp2
    go_ret
    exact ⟨by rw [hr.out]; rfl, rfl⟩
theorem char_any (n : Nat) (w : World) (h : n < 4294967296) : Calls Tryd.prog 22 #[.int .u32 (n : Int)] w fun e w' => e = .returned (.int .i32 ((charN n : Nat) : Int)) ∧ w' = w := by
  rw [← charZ_eq]
  exact char_anyZ _ w (by omega) (by omega)

/-- the units of a character, over integers -/
def splitZ (z : Int) : List Int := if z < 65536 then [z] else [55296 + (z - 65536) / 1024, 56320 + (z - 65536) % 1024]
theorem splitZ_eq (n : Nat) : splitZ (n : Int) = (splitN n).map (fun m : Nat => (m : Int)) := by
  unfold splitZ splitN
  by_cases h : n < 65536
  · rw [if_pos h, if_pos (by omega)]; rfl
  · rw [if_neg h, if_neg (by omega)]
    simp only [List.map_cons, List.map_nil]
    congr 1
    · omega
    · congr 1; omega
theorem and1023 (n : Int) : bits BinOp.and .i32 n 1023 = n % 1024 := by
  have h127 : (BitVec.ofInt 32 1023).toNat = 2 ^ 10 - 1 := by decide
  have key : (BitVec.ofInt 32 n &&& BitVec.ofInt 32 1023).toNat = (n % ((2 ^ 32 : Nat) : Int)).toNat % 2 ^ 10 := by
    rw [BitVec.toNat_and, BitVec.toNat_ofInt, h127, Nat.and_two_pow_sub_one_eq_mod]
  show IntKind.i32.wrap ((BitVec.ofInt 32 n &&& BitVec.ofInt 32 1023).toNat : Nat) = n % 1024
  rw [key, IntKind.wrap_i32]
  omega
set_option maxRecDepth 100000 in
theorem split_anyZ (z : Int) (w : World) (h0 : 0 ≤ z) (h1 : z ≤ 1114111) : Calls Tryd.prog 28 #[.int .i32 z] w fun e w' =>
    e = .returned (.slice (some ⟨w.heap.size, 0, none⟩) (splitZ z).length (splitZ z).length) ∧ w' = w.alloc (.cells ((splitZ z).map (Value.int .u16)).toArray 40) := by
  by_cases h2 : z < 65536
  · have hs := hide (show splitZ z = [z] by unfold splitZ; rw [if_pos h2])
    go_enter Tryd.func28, Tryd.ntmps28
    go_wp2
    go_ret
    exact ⟨by rw [hs.out]; rfl, by rw [hs.out]; rfl⟩
  · have hs := hide (show splitZ z = [55296 + (z - 65536) / 1024, 56320 + (z - 65536) % 1024] by unfold splitZ; rw [if_neg h2])
    have h2' : 65536 ≤ z := by omega
    have ha := and1023 (z - 65536)
    clear h2
    go_enter Tryd.func28, Tryd.ntmps28
    go_wp2
    go_ret
    exact ⟨by rw [hs.out]; rfl, by rw [hs.out]; rfl⟩
theorem split_any (n : Nat) (w : World) (h : okN n) : Calls Tryd.prog 28 #[.int .i32 (n : Int)] w fun e w' =>
    e = .returned (.slice (some ⟨w.heap.size, 0, none⟩) (splitN n).length (splitN n).length) ∧ w' = w.alloc (.cells (u16C (splitN n)).toArray 40) := by
  have hs := split_anyZ n w (by omega) (by unfold okN at h; omega)
  rw [splitZ_eq, List.length_map, List.map_map] at hs
  exact hs
end Go.Proofs.YtokijdgakphfiaaDoor
