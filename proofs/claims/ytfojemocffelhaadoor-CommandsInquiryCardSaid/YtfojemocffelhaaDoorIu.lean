
/- CommandsInquiry together. -/
import Derived.Test.YtfojemocffelhaaDoorChecked
import Derived.Deep.RegionHeld3
import Derived.Deep.DrawnRows
import Derived.Deep.DeepCutAuto
import Derived.Deep.LoopGhost
import Derived.Outline
import Derived.Handy
import Derived.OwnWalk
import Derived.Test.YtfojemocffelhaaDoorIp
import Derived.Test.YtfojemocffelhaaDoorIq
import Derived.Test.YtfojemocffelhaaDoorIr
import Derived.Test.YtfojemocffelhaaDoorIs
import Derived.Test.YtfojemocffelhaaDoorIt
set_option linter.unusedVariables false
set_option linter.unusedSimpArgs false
set_option linter.unusedSectionVars false
namespace Go.Proofs.YtfojemocffelhaaDoor
open Go.RowKit Go.Shelf
attribute [local go_sem ↓] Go.wp_at_zero Go.wp_at_succ

set_option maxRecDepth 100000 in
set_option maxHeartbeats 2000000 in
theorem big_1 (v p r : ByteArray) (rem : Bool) (y z : Nat) (A : Option Addr) (n c : Nat) (w : World) (hT : Tabs w) (h1 : (30 : Int) < (v.size : Int)) :
    Calls Tryd.prog 7 #[.agg #[.string v, .string p, .string r, .bool rem], .slice A n c, .agg #[.int .u32 y, .int .u32 z]] w fun e w' => e = .returned (.bool true) ∧ Kept w w' := by
  go_enter Tryd.func7, Tryd.ntmps7
  go_wp2_with (go_at_call 14; refine (lives_any _ (by exact (hT.alloc _).alloc _)).mono ?_; rintro e w1 ⟨rfl, hk1⟩)
  go_ret
  exact ⟨rfl, (((Below.refl _ w).alloc (Nat.le_refl _) _).alloc (by simp) _).trans (hk1.mono (by simp; omega))⟩
set_option maxRecDepth 100000 in
set_option maxHeartbeats 2000000 in
theorem big_2 (v p r : ByteArray) (rem : Bool) (y z : Nat) (A : Option Addr) (n c : Nat) (w : World) (hT : Tabs w) (h1 : (v.size : Int) ≤ 30) (h2 : (30 : Int) < (p.size : Int)) :
    Calls Tryd.prog 7 #[.agg #[.string v, .string p, .string r, .bool rem], .slice A n c, .agg #[.int .u32 y, .int .u32 z]] w fun e w' => e = .returned (.bool true) ∧ Kept w w' := by
  go_enter Tryd.func7, Tryd.ntmps7
  go_wp2_with (go_at_call 14; refine (lives_any _ (by exact (hT.alloc _).alloc _)).mono ?_; rintro e w1 ⟨rfl, hk1⟩)
  go_ret
  exact ⟨rfl, (((Below.refl _ w).alloc (Nat.le_refl _) _).alloc (by simp) _).trans (hk1.mono (by simp; omega))⟩
set_option maxRecDepth 100000 in
set_option maxHeartbeats 2000000 in
theorem big_3 (v p r : ByteArray) (rem : Bool) (y z : Nat) (A : Option Addr) (n c : Nat) (w : World) (hT : Tabs w) (h1 : (v.size : Int) ≤ 30) (h2 : (p.size : Int) ≤ 30) (h3 : (30 : Int) < (r.size : Int)) :
    Calls Tryd.prog 7 #[.agg #[.string v, .string p, .string r, .bool rem], .slice A n c, .agg #[.int .u32 y, .int .u32 z]] w fun e w' => e = .returned (.bool true) ∧ Kept w w' := by
  go_enter Tryd.func7, Tryd.ntmps7
  go_wp2_with (go_at_call 14; refine (lives_any _ (by exact (hT.alloc _).alloc _)).mono ?_; rintro e w1 ⟨rfl, hk1⟩)
  go_ret
  exact ⟨rfl, (((Below.refl _ w).alloc (Nat.le_refl _) _).alloc (by simp) _).trans (hk1.mono (by simp; omega))⟩
set_option maxRecDepth 100000 in
set_option maxHeartbeats 2000000 in
theorem big_4 (v p r : ByteArray) (rem : Bool) (y z : Nat) (A : Option Addr) (n c : Nat) (w : World) (hT : Tabs w) (h1 : (v.size : Int) ≤ 30) (h2 : (p.size : Int) ≤ 30) (h3 : (r.size : Int) ≤ 30) (h4 : (60 : Int) < (n : Int)) :
    Calls Tryd.prog 7 #[.agg #[.string v, .string p, .string r, .bool rem], .slice A n c, .agg #[.int .u32 y, .int .u32 z]] w fun e w' => e = .returned (.bool true) ∧ Kept w w' := by
  go_enter Tryd.func7, Tryd.ntmps7
  go_wp2_with (go_at_call 14; refine (lives_any _ (by exact (hT.alloc _).alloc _)).mono ?_; rintro e w1 ⟨rfl, hk1⟩)
  go_ret
  exact ⟨rfl, (((Below.refl _ w).alloc (Nat.le_refl _) _).alloc (by simp) _).trans (hk1.mono (by simp; omega))⟩
theorem inq_law (v p r : ByteArray) (rem : Bool) (y z : Nat) (A : Option Addr) (n c : Nat) (bs : List UInt8) (w : World) (hT : Tabs w) (hnc : n ≤ c) (hy : y < 4294967296) (hz : z < 4294967296)
    (hl : Sl byT w (low w.heap.size) A n bs) :
    Calls Tryd.prog 7 #[.agg #[.string v, .string p, .string r, .bool rem], .slice A n c, .agg #[.int .u32 y, .int .u32 z]] w fun e w' => e = .returned (.bool true) ∧ Kept w w' := by
  by_cases hv : 30 < v.size
  · exact big_1 v p r rem y z A n c w hT (by omega)
  by_cases hp : 30 < p.size
  · exact big_2 v p r rem y z A n c w hT (by omega) (by omega)
  by_cases hr : 30 < r.size
  · exact big_3 v p r rem y z A n c w hT (by omega) (by omega) (by omega)
  by_cases hn : 60 < n
  · exact big_4 v p r rem y z A n c w hT (by omega) (by omega) (by omega) (by omega)
  have hRv : ∀ w, _ := fun w => right_any v w (by omega)
  have hRp : ∀ w, _ := fun w => right_any p w (by omega)
  have hRr : ∀ w, _ := fun w => right_any r w (by omega)
  by_cases hlong : longB v p r = true
  · have hE : errI v p r = 3 := by rw [errI, if_pos hlong]
    rw [long_iff] at hlong
    by_cases h1 : 8 < v.size
    · cases hB1 : rightL v.data.toList <;> rw [hB1] at hRv
      · exact inqA_1_1 _ _ v p r rem y z A n c bs w hT (by omega) (by omega) (by omega) (by omega) hnc hy hz hl hRv hRp hRr (by omega) hE
      · cases hB2 : rightL p.data.toList <;> rw [hB2] at hRp
        · exact inqA_1_2 _ v p r rem y z A n c bs w hT (by omega) (by omega) (by omega) (by omega) hnc hy hz hl hRv hRp hRr (by omega) hE
        · cases hB3 : rightL r.data.toList <;> rw [hB3] at hRr
          · exact inqA_1_3 v p r rem y z A n c bs w hT (by omega) (by omega) (by omega) (by omega) hnc hy hz hl hRv hRp hRr (by omega) hE
          · exact inqA_1_4 v p r rem y z A n c bs w hT (by omega) (by omega) (by omega) (by omega) hnc hy hz hl hRv hRp hRr (by omega) hE
    · by_cases h2 : 16 < p.size
      · cases hB1 : rightL v.data.toList <;> rw [hB1] at hRv
        · exact inqA_2_1 _ _ v p r rem y z A n c bs w hT (by omega) (by omega) (by omega) (by omega) hnc hy hz hl hRv hRp hRr (by omega) (by omega) hE
        · cases hB2 : rightL p.data.toList <;> rw [hB2] at hRp
          · exact inqA_2_2 _ v p r rem y z A n c bs w hT (by omega) (by omega) (by omega) (by omega) hnc hy hz hl hRv hRp hRr (by omega) (by omega) hE
          · cases hB3 : rightL r.data.toList <;> rw [hB3] at hRr
            · exact inqA_2_3 v p r rem y z A n c bs w hT (by omega) (by omega) (by omega) (by omega) hnc hy hz hl hRv hRp hRr (by omega) (by omega) hE
            · exact inqA_2_4 v p r rem y z A n c bs w hT (by omega) (by omega) (by omega) (by omega) hnc hy hz hl hRv hRp hRr (by omega) (by omega) hE
      · cases hB1 : rightL v.data.toList <;> rw [hB1] at hRv
        · exact inqA_3_1 _ _ v p r rem y z A n c bs w hT (by omega) (by omega) (by omega) (by omega) hnc hy hz hl hRv hRp hRr (by omega) (by omega) (by omega) hE
        · cases hB2 : rightL p.data.toList <;> rw [hB2] at hRp
          · exact inqA_3_2 _ v p r rem y z A n c bs w hT (by omega) (by omega) (by omega) (by omega) hnc hy hz hl hRv hRp hRr (by omega) (by omega) (by omega) hE
          · cases hB3 : rightL r.data.toList <;> rw [hB3] at hRr
            · exact inqA_3_3 v p r rem y z A n c bs w hT (by omega) (by omega) (by omega) (by omega) hnc hy hz hl hRv hRp hRr (by omega) (by omega) (by omega) hE
            · exact inqA_3_4 v p r rem y z A n c bs w hT (by omega) (by omega) (by omega) (by omega) hnc hy hz hl hRv hRp hRr (by omega) (by omega) (by omega) hE
  · have hl0 : longB v p r = false := by simpa using hlong
    rw [long_iff] at hlong
    cases hB1 : rightL v.data.toList <;> rw [hB1] at hRv
    · exact inqA_0_1 _ _ v p r rem y z A n c bs w hT (by omega) (by omega) (by omega) (by omega) hnc hy hz hl hRv hRp hRr (by omega) (by omega) (by omega) (by simp [errI, hl0, allB, hB1])
    · cases hB2 : rightL p.data.toList <;> rw [hB2] at hRp
      · exact inqA_0_2 _ v p r rem y z A n c bs w hT (by omega) (by omega) (by omega) (by omega) hnc hy hz hl hRv hRp hRr (by omega) (by omega) (by omega) (by simp [errI, hl0, allB, hB2])
      · cases hB3 : rightL r.data.toList <;> rw [hB3] at hRr
        · exact inqA_0_3 v p r rem y z A n c bs w hT (by omega) (by omega) (by omega) (by omega) hnc hy hz hl hRv hRp hRr (by omega) (by omega) (by omega) (by simp [errI, hl0, allB, hB3])
        · exact inqA_0_4 v p r rem y z A n c bs w hT (by omega) (by omega) (by omega) (by omega) hnc hy hz hl hRv hRp hRr (by omega) (by omega) (by omega) (by simp [errI, hl0, allB, hB1, hB2, hB3])
end Go.Proofs.YtfojemocffelhaaDoor
