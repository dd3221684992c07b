
/- A number's decimal form: strconv.Itoa by its contract of the shelf, strconv.FormatUint at base 10 by a walk over the contracts of its callees. -/
import Derived.Test.YtfojemocffelhaaDoorChecked
import Derived.Deep.RegionHeld3
import Derived.Deep.DrawnRows
import Derived.Deep.DeepCutAuto
import Derived.Deep.LoopGhost
import Derived.Outline
import Derived.Handy
import Derived.OwnWalk
import Derived.Lib.AppendIntMem
import Derived.Shelf.SlSorted.Search
import Derived.Test.YtfojemocffelhaaDoorSb
set_option linter.unusedVariables false
set_option linter.unusedSimpArgs false
set_option linter.unusedSectionVars false
namespace Go.Proofs.YtfojemocffelhaaDoor
open Go.RowKit Go.Shelf Go.Sort Go.Lib
attribute [local go_sem ↓] Go.wp_at_zero Go.wp_at_succ

theorem itoa_any (n : Int) (w : World) (h0 : -9223372036854775808 ≤ n) (h1 : n ≤ 9223372036854775807) (hT : Tabs w) :
    Calls Tryd.prog 28 #[.int .i64 n] w fun e w' => e = .returned (.string ⟨(Lib.itoa n).toArray⟩) ∧ Kept w w' := by
  refine (Any.strconv_Itoa laysItoa n h0 h1 w (hT.powIs laysItoa.m17)).mono ?_
  rintro e w' ⟨rfl, k, os, rfl⟩
  exact ⟨rfl, below_grown_sl _ w k os (Nat.le_refl _)⟩
theorem small_any (i : Nat) (w : World) (h : i < 100) : Calls Tryd.prog 62 #[.int .i64 i] w fun e w' => e = .returned (.string ⟨(Lib.decDigits i).toArray⟩) ∧ w' = w := Any.internal_strconv_small { laysItoa with } i h w
theorem digits_any (u : Nat) (w : World) (h1 : 1 ≤ u) (h2 : u < 18446744073709551616) (hT : Tabs w) : Calls Tryd.prog 63 #[.int .u64 u] w fun e w' => e = .returned (.int .i64 (Lib.nDigits u)) ∧ w' = w :=
  Any.internal_strconv_numDigits { laysItoa with } u h1 h2 w (hT.powIs laysItoa.m17)
abbrev bV : UInt8 → Value := fun b => Value.int .u8 (b.toNat : Int)
theorem base10_any (blk nd cap u : Nat) (w : World) (hH : Holds bV w blk 0 (Array.replicate nd (0 : UInt8))) (hu : u < 10 ^ nd) (h64 : u < 18446744073709551616) (hn : nd ≤ 24) :
    Calls Tryd.prog 64 #[.slice (some ⟨blk, 0, none⟩) nd cap, .int .u64 u] w fun e w' => e = .returned (.tuple #[]) ∧ ∃ (n v' : Nat) (dk : Array UInt8), w' = (putRow bV w blk 0 dk).drewN n ∧ FmtInv nd u 0 v' dk := by
  have h := Any.internal_strconv_formatBase10 { laysItoa with } blk 0 cap u (Array.replicate nd (0 : UInt8)) w hH (by rw [Array.size_replicate]; exact hu) h64 (by rw [Array.size_replicate]; omega)
  rw [Array.size_replicate] at h
  exact h

set_option maxRecDepth 100000 in
set_option maxHeartbeats 2000000 in
theorem formatU (u : Nat) (w : World) (hu : u < 18446744073709551616) (hT : Tabs w) :
    Calls Tryd.prog 44 #[.int .u64 u, .int .i64 10] w fun e w' => e = .returned (.string ⟨(Lib.decDigits u).toArray⟩) ∧ Kept w w' := by
  by_cases hs : u < 100
  · have hc := small_any u w hs
    have hs' : (u : Int) < 100 := by omega
    go_enter Tryd.func44, Tryd.ntmps44
    go_wp2_with (go_at_call 62; refine hc.mono ?_; rintro e w1 ⟨rfl, rfl⟩)
    go_ret
    exact ⟨rfl, Below.refl _ _⟩
  · have h1 : 1 ≤ u := by omega
    have hnd : Lib.nDigits u ≤ 20 := by have := Lib.numDigits_eq u h1 hu; split at this <;> omega
    have hs' : (100 : Int) ≤ (u : Int) := by omega
    have hal : Tryd.prog.arrayLen 111 = 24 := by kernel_rfl
    have hcut : ∀ W, (Instr.sliceAt 111 (.pointer (some ⟨w.heap.size, 0, none⟩)) none (some (.int .i64 (Lib.nDigits u : Int))) none).run Tryd.prog W = .ok (.slice (some ⟨w.heap.size, 0, none⟩) (Lib.nDigits u) 24) W := fun W => by
      rw [run_sliceAt_array_h W 111 ⟨w.heap.size, 0, none⟩ (by kernel_rfl) .i64 (Lib.nDigits u : Int) (by omega) (by rw [hal]; omega)]
      go_simp
    have hH := Lib.holds_zero0 w 111 (Lib.nDigits u) (by omega)
    have hb := base10_any w.heap.size (Lib.nDigits u) 24 u (w.alloc (.cells Lib.zeros24 111)) hH (Lib.lt_pow_nDigits u) hu (by omega)
    have hd := digits_any u (w.alloc (.cells Lib.zeros24 111)) h1 hu (hT.alloc _)
    have HH := hide hH
    clear hH hal
    go_enter Tryd.func44, Tryd.ntmps44
    go_wp2_with (first
      | (go_at_call 63; refine hd.mono ?_; rintro e w1 ⟨rfl, rfl⟩))
    go_at_call 64
    refine hb.mono ?_
    rintro e w1 ⟨rfl, k, v', dk, rfl, hF⟩
    have hcv : (convert 32 9 (.slice (some ⟨w.heap.size, 0, none⟩) (Lib.nDigits u) 24)).run Tryd.prog ((putRow bV (w.alloc (.cells Lib.zeros24 111)) w.heap.size 0 dk).drewN k) = .ok (.string ⟨(Lib.decDigits u).toArray⟩) ((putRow bV (w.alloc (.cells Lib.zeros24 111)) w.heap.size 0 dk).drewN k) := by
      have h := run_convert_bytes_back (P := Tryd.prog) ((putRow bV (w.alloc (.cells Lib.zeros24 111)) w.heap.size 0 dk).drewN k) 32 9 5 ⟨w.heap.size, 0, none⟩ 24 (Lib.decDigits u) (by kernel_rfl) (by kernel_rfl) (by kernel_rfl) (fun j hj => by
        rw [Lib.row_is_numeral hF j hj, Lib.add_plain, World.cell?_drewN]
        exact cell?_putRow bV _ w.heap.size 0 _ dk HH.out (by rw [hF.size, Array.size_replicate]) j (by rw [hF.size]; rw [Lib.decDigits_length] at hj; exact hj))
      rw [Lib.decDigits_length] at h
      exact h
    go_wp2
    go_ret
    refine ⟨rfl, ?_⟩
    obtain ⟨os', _, e⟩ := putRow_grow_new bV w #[.cells Lib.zeros24 111] w.heap.size 0 dk (Nat.le_refl _)
    rw [alloc_eq_grow, e]
    exact below_grown_sl _ w k os' (Nat.le_refl _)
theorem formatUint (u : Nat) (w : World) (hu : u < 18446744073709551616) (hT : Tabs w) :
    Calls Tryd.prog 29 #[.int .u64 u, .int .i64 10] w fun e w' => e = .returned (.string ⟨(Lib.decDigits u).toArray⟩) ∧ Kept w w' := by
  have hc := formatU u w hu hT
  go_enter Tryd.func29, Tryd.ntmps29
  go_wp2_with (go_at_call 44; refine hc.mono ?_; rintro e w1 ⟨rfl, hk⟩)
  go_ret
  exact ⟨rfl, hk⟩
end Go.Proofs.YtfojemocffelhaaDoor
