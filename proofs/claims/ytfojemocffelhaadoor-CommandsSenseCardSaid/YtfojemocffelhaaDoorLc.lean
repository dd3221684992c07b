
/- CommandsSense together. -/
import Derived.Test.YtfojemocffelhaaDoorChecked
import Derived.Deep.RegionHeld3
import Derived.Deep.DrawnRows
import Derived.Deep.DeepCutAuto
import Derived.Deep.LoopGhost
import Derived.Outline
import Derived.Handy
import Derived.Test.YtfojemocffelhaaDoorLb
namespace Go.Proofs.YtfojemocffelhaaDoor
open Go.RowKit

theorem sense_law (k x y : Int) (A : Option Addr) (n c : Nat) (bs : List UInt8) (w : World) (hT : Tabs w) (hk0 : 0 ≤ k) (hx0 : 0 ≤ x) (hx : x < 256) (hy0 : 0 ≤ y) (hy : y < 256)
    (hl : Sl byT w (low w.heap.size) A n bs) :
    Calls Tryd.prog 4 #[.agg #[.int .u8 k, .int .u8 x, .int .u8 y], .slice A n c] w fun e w' => e = .returned (.bool true) ∧ Kept w w' := by
  by_cases h60 : 60 < n
  · exact len_gt k x y A n c w hT h60
  have hn : n ≤ 60 := by omega
  by_cases h14 : n < 14
  · by_cases hk : 15 < k
    · exact short_no k x y w A n c hn hT hk h14
    · exact short_ok k x y w A n c hn hT hk0 (by omega) hx0 hx hy0 hy h14
  have h14' : 14 ≤ n := by omega
  obtain ⟨b0, b, off, e0, hA, hb, _, z0⟩ := by_at hl (Below.refl _ _) (show 0 < n by omega)
  obtain ⟨b2, b', off', e2, hA2, _, _, z2⟩ := by_at hl (Below.refl _ _) (show 2 < n by omega)
  obtain ⟨b12, b'', off'', e12, hA12, _, _, z12⟩ := by_at hl (Below.refl _ _) (show 12 < n by omega)
  obtain ⟨b13, b3, off3, e13, hA13, _, _, z13⟩ := by_at hl (Below.refl _ _) (show 13 < n by omega)
  rw [hA] at hA2 hA12 hA13
  injection hA2 with hA2
  injection hA2 with q1 q2 _
  subst q1 q2
  injection hA12 with hA12
  injection hA12 with q1 q2 _
  subst q1 q2
  injection hA13 with hA13
  injection hA13 with q1 q2 _
  subst q1 q2
  rw [Nat.add_zero] at z0
  have hv : (b2.toNat : Int) < 256 := by have := b2.toNat_lt; omega
  by_cases hz : (b0.toNat : Int) = 112
  · rw [hz] at z0
    by_cases hk : 15 < k
    · exact good_no k x y w A n c hn hT hk b off hA h14' hb z0 _ _ _ (by omega) hv z2 z12 z13
    · exact good_ok k x y w A n c hn hT hk0 (by omega) hx0 hx hy0 hy b off hA h14' hb z0 _ _ _ (by omega) hv z2 z12 z13
  · by_cases hk : 15 < k
    · exact bad_no k x y w A n c hn hT hk b off hA h14' hb _ z0 hz
    · exact bad_ok k x y w A n c hn hT hk0 (by omega) hx0 hx hy0 hy b off hA h14' hb _ z0 hz
end Go.Proofs.YtfojemocffelhaaDoor
