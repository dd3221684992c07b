
/- The law's own functions: proper, decimal. -/
import Derived.Test.YtfojemocffelhaaDoorChecked
import Derived.Deep.RegionHeld3
import Derived.Deep.DrawnRows
import Derived.Deep.DeepCutAuto
import Derived.Deep.LoopGhost
import Derived.Outline
import Derived.Handy
import Derived.OwnWalk
import Derived.Test.YtfojemocffelhaaDoorSi
import Derived.Test.YtfojemocffelhaaDoorSg
set_option linter.unusedVariables false
set_option linter.unusedSimpArgs false
set_option linter.unusedSectionVars false
namespace Go.Proofs.YtfojemocffelhaaDoor
open Go.RowKit
attribute [local go_sem ↓] Go.wp_at_zero Go.wp_at_succ

theorem conv1 (W : World) (g : Nat) (z : Int) (h : W.cell? ⟨g, 0, none⟩ = some (.int .u8 z)) (h0 : 0 ≤ z) (h1 : z < 256) :
    (convert 32 9 (.slice (some ⟨g, 0, none⟩) 1 1)).run Tryd.prog W = .ok (.string ⟨#[uz z]⟩) W :=
  run_convert_bytes_back (P := Tryd.prog) W 32 9 5 ⟨g, 0, none⟩ 1 [uz z] Tryd.underlying32 Tryd.underlying5 Tryd.underlying9 (fun j hj => by
    have : j = 0 := by simp at hj; omega
    subst this
    rw [Addr.add_lit, Nat.zero_add, h]
    simp [uz_int h0 h1])
theorem new_kept {W w5 : World} {v : Value} {t : TypeId} (hk : Kept (W.drew.alloc (.cells #[v] t)) w5) : w5.cell? ⟨W.heap.size, 0, none⟩ = some v :=
  (hk.cell (p := ⟨W.heap.size, 0, none⟩) (by simp)).trans (cell_of_row _ _ 0 #[v] t (0, 0) (heap_alloc_new W.drew _))
theorem kept_drew {W w5 : World} (hk : Kept W.drew w5) : Below W.heap.size W w5 := (Below.refl _ _).drew.trans hk
theorem kept_new {W w5 : World} {v : Value} {t : TypeId} (hk : Kept (W.drew.alloc (.cells #[v] t)) w5) : Below W.heap.size W w5 :=
  ((Below.refl _ W).drew.alloc (Nat.le_refl _) _).trans (hk.mono (by simp))
theorem uz_dig (u : Nat) : uz (48 + (u : Int)) = UInt8.ofNat (48 + u) := by
  unfold uz
  congr 1
set_option maxRecDepth 100000 in
set_option maxHeartbeats 2000000 in
theorem decimal_any (u : Nat) : ∀ w, u < 18446744073709551616 → Calls Tryd.prog 15 #[.int .u64 u] w fun e w' => e = .returned (.string (decB u)) ∧ Kept w w' := by
  induction u using Nat.strongRecOn with
  | ind u ih =>
  intro w hu
  by_cases h : u < 10
  · have hd : decB u = ⟨#[uz (48 + (u : Int))]⟩ := by
      unfold decB
      rw [Lib.decDigits_one h, uz_dig]
    have h' : (u : Int) < 10 := by omega
    rw [hd]
    have hcv := conv1 (w.alloc (.cells #[.int .u8 (48 + (u : Int))] 5)) w.heap.size (48 + (u : Int)) (by simp) (by omega) (by omega)
    have hw1 : IntKind.u8.wrap (u : Int) = u := by rw [IntKind.wrap_u8]; omega
    clear hd h ih
    go_enter Tryd.func15, Tryd.ntmps15
    go_wp2_with fail
    go_ret
    exact ⟨rfl, by go_grown⟩
  · have h' : (10 : Int) ≤ (u : Int) := by omega
    have hs1 : (decB (u / 10)).size ≤ 100 := decB_size (by omega)
    have hd : decB u = decB (u / 10) ++ ⟨#[uz (48 + (u : Int) % 10)]⟩ := by
      rw [show (48 + (u : Int) % 10) = 48 + ((u % 10 : Nat) : Int) by omega, uz_dig]
      unfold decB
      conv => lhs; rw [Lib.decDigits, dif_neg h]
      rw [← List.append_toArray]
      exact str_inj (by simp)
    have ih1 : ∀ w, Calls Tryd.prog 15 #[.int .u64 ((u : Int) / 10)] w fun e w' => e = .returned (.string (decB (u / 10))) ∧ Kept w w' := fun w => ih (u / 10) (by omega) w (by omega)
    rw [hd]
    have hm0 : 0 ≤ (u : Int) % 10 := by omega
    have hm1 : (u : Int) % 10 < 10 := by omega
    have hw1 : IntKind.u8.wrap ((u : Int) % 10) = (u : Int) % 10 := by rw [IntKind.wrap_u8]; omega
    have hsum : ∀ W : World, (Op.stringOp .add (decB (u / 10)) ⟨#[uz (48 + (u : Int) % 10)]⟩).run Tryd.prog W = .ok (.string (decB (u / 10) ++ ⟨#[uz (48 + (u : Int) % 10)]⟩)) W := fun W => run_string_add_sum W _ _ (by rw [show (⟨#[uz (48 + (u : Int) % 10)]⟩ : ByteArray).size = 1 from rfl]; omega)
    have hcv := fun W g h => conv1 W g (48 + (u : Int) % 10) h (by omega) (by omega)
    generalize decB (u / 10) = pre at *
    have htd : (u : Int).tdiv 10 = (u : Int) / 10 := Int.tdiv_eq_ediv_of_nonneg (by omega)
    have htm : (u : Int).tmod 10 = (u : Int) % 10 := Int.tmod_eq_emod_of_nonneg (by omega)
    have hwd : IntKind.u64.wrap ((u : Int) / 10) = (u : Int) / 10 := by rw [IntKind.wrap_u64]; omega
    have hwm : IntKind.u64.wrap ((u : Int) % 10) = (u : Int) % 10 := by rw [IntKind.wrap_u64]; omega
    have hws : IntKind.u8.wrap (48 + (u : Int) % 10) = 48 + (u : Int) % 10 := by rw [IntKind.wrap_u8]; omega
    clear hd h ih
    go_enter Tryd.func15, Tryd.ntmps15
    go_wp2_with fail
    go_region_with (go_at_call 15; (with_reducible refine (ih1 _).mono ?_); rintro e w5 ⟨rfl, hk5⟩; (try (have hcvA := hcv w5 w.heap.size (new_kept hk5))); have hkA := (by first | exact kept_new hk5 | exact kept_drew hk5 : Below w.heap.size w w5); have hsA := hkA.size)
    all_goals go_wp2_with fail
    all_goals (go_ret; exact ⟨rfl, by go_grown⟩)
set_option maxRecDepth 100000 in
set_option maxHeartbeats 2000000 in
theorem lawproper_any (op b c l : Int) (w : World) (hb0 : 0 ≤ b) (hb : b < 4294967296) (hc0 : 0 ≤ c) (hc : c < 65536) :
    Calls Tryd.prog 13 #[.agg #[.int .u8 op, .int .u32 b, .int .u16 c, .int .i64 l]] w fun e w' => e = .returned (.bool (properZ op b c l)) ∧ Kept w w' := by
  rcases op_cases op with rfl | rfl | rfl | rfl | rfl | rfl | rfl | h
  · by_cases h1 : b = 0
    · by_cases h2 : c = 0
      · skip
        go_enter Tryd.func13, Tryd.ntmps13
        go_wp2
        all_goals first
          | (exfalso; omega)
          | (go_ret
             refine ⟨?_, by go_grown⟩
             first
               | (simp [properZ, *]; done)
               | (simp [properZ, *]; omega)
               | (refine ret_bool ?_; unfold properZ; rw [Bool.eq_iff_iff]; simp; omega))
      · skip
        go_enter Tryd.func13, Tryd.ntmps13
        go_wp2
        all_goals first
          | (exfalso; omega)
          | (go_ret
             refine ⟨?_, by go_grown⟩
             first
               | (simp [properZ, *]; done)
               | (simp [properZ, *]; omega)
               | (refine ret_bool ?_; unfold properZ; rw [Bool.eq_iff_iff]; simp; omega))
    · skip
      go_enter Tryd.func13, Tryd.ntmps13
      go_wp2
      all_goals first
        | (exfalso; omega)
        | (go_ret
           refine ⟨?_, by go_grown⟩
           first
             | (simp [properZ, *]; done)
             | (simp [properZ, *]; omega)
             | (refine ret_bool ?_; unfold properZ; rw [Bool.eq_iff_iff]; simp; omega))
  · by_cases h1 : b = 0
    · by_cases h2 : c = 0
      · by_cases h3 : 0 ≤ l
        · skip
          go_enter Tryd.func13, Tryd.ntmps13
          go_wp2
          all_goals first
            | (exfalso; omega)
            | (go_ret
               refine ⟨?_, by go_grown⟩
               first
                 | (simp [properZ, *]; done)
                 | (simp [properZ, *]; omega)
                 | (refine ret_bool ?_; unfold properZ; rw [Bool.eq_iff_iff]; simp; omega))
        · skip
          go_enter Tryd.func13, Tryd.ntmps13
          go_wp2
          all_goals first
            | (exfalso; omega)
            | (go_ret
               refine ⟨?_, by go_grown⟩
               first
                 | (simp [properZ, *]; done)
                 | (simp [properZ, *]; omega)
                 | (refine ret_bool ?_; unfold properZ; rw [Bool.eq_iff_iff]; simp; omega))
      · skip
        go_enter Tryd.func13, Tryd.ntmps13
        go_wp2
        all_goals first
          | (exfalso; omega)
          | (go_ret
             refine ⟨?_, by go_grown⟩
             first
               | (simp [properZ, *]; done)
               | (simp [properZ, *]; omega)
               | (refine ret_bool ?_; unfold properZ; rw [Bool.eq_iff_iff]; simp; omega))
    · skip
      go_enter Tryd.func13, Tryd.ntmps13
      go_wp2
      all_goals first
        | (exfalso; omega)
        | (go_ret
           refine ⟨?_, by go_grown⟩
           first
             | (simp [properZ, *]; done)
             | (simp [properZ, *]; omega)
             | (refine ret_bool ?_; unfold properZ; rw [Bool.eq_iff_iff]; simp; omega))
  · by_cases h1 : b = 0
    · by_cases h2 : c = 0
      · by_cases h3 : 0 ≤ l
        · skip
          go_enter Tryd.func13, Tryd.ntmps13
          go_wp2
          all_goals first
            | (exfalso; omega)
            | (go_ret
               refine ⟨?_, by go_grown⟩
               first
                 | (simp [properZ, *]; done)
                 | (simp [properZ, *]; omega)
                 | (refine ret_bool ?_; unfold properZ; rw [Bool.eq_iff_iff]; simp; omega))
        · skip
          go_enter Tryd.func13, Tryd.ntmps13
          go_wp2
          all_goals first
            | (exfalso; omega)
            | (go_ret
               refine ⟨?_, by go_grown⟩
               first
                 | (simp [properZ, *]; done)
                 | (simp [properZ, *]; omega)
                 | (refine ret_bool ?_; unfold properZ; rw [Bool.eq_iff_iff]; simp; omega))
      · skip
        go_enter Tryd.func13, Tryd.ntmps13
        go_wp2
        all_goals first
          | (exfalso; omega)
          | (go_ret
             refine ⟨?_, by go_grown⟩
             first
               | (simp [properZ, *]; done)
               | (simp [properZ, *]; omega)
               | (refine ret_bool ?_; unfold properZ; rw [Bool.eq_iff_iff]; simp; omega))
    · skip
      go_enter Tryd.func13, Tryd.ntmps13
      go_wp2
      all_goals first
        | (exfalso; omega)
        | (go_ret
           refine ⟨?_, by go_grown⟩
           first
             | (simp [properZ, *]; done)
             | (simp [properZ, *]; omega)
             | (refine ret_bool ?_; unfold properZ; rw [Bool.eq_iff_iff]; simp; omega))
  · by_cases h1 : b = 0
    · by_cases h2 : c = 0
      · skip
        go_enter Tryd.func13, Tryd.ntmps13
        go_wp2
        all_goals first
          | (exfalso; omega)
          | (go_ret
             refine ⟨?_, by go_grown⟩
             first
               | (simp [properZ, *]; done)
               | (simp [properZ, *]; omega)
               | (refine ret_bool ?_; unfold properZ; rw [Bool.eq_iff_iff]; simp; omega))
      · skip
        go_enter Tryd.func13, Tryd.ntmps13
        go_wp2
        all_goals first
          | (exfalso; omega)
          | (go_ret
             refine ⟨?_, by go_grown⟩
             first
               | (simp [properZ, *]; done)
               | (simp [properZ, *]; omega)
               | (refine ret_bool ?_; unfold properZ; rw [Bool.eq_iff_iff]; simp; omega))
    · skip
      go_enter Tryd.func13, Tryd.ntmps13
      go_wp2
      all_goals first
        | (exfalso; omega)
        | (go_ret
           refine ⟨?_, by go_grown⟩
           first
             | (simp [properZ, *]; done)
             | (simp [properZ, *]; omega)
             | (refine ret_bool ?_; unfold properZ; rw [Bool.eq_iff_iff]; simp; omega))
  · by_cases h1 : l = 0
    · skip
      go_enter Tryd.func13, Tryd.ntmps13
      go_wp2
      all_goals first
        | (exfalso; omega)
        | (go_ret
           refine ⟨?_, by go_grown⟩
           first
             | (simp [properZ, *]; done)
             | (simp [properZ, *]; omega)
             | (refine ret_bool ?_; unfold properZ; rw [Bool.eq_iff_iff]; simp; omega))
    · skip
      go_enter Tryd.func13, Tryd.ntmps13
      go_wp2
      all_goals first
        | (exfalso; omega)
        | (go_ret
           refine ⟨?_, by go_grown⟩
           first
             | (simp [properZ, *]; done)
             | (simp [properZ, *]; omega)
             | (refine ret_bool ?_; unfold properZ; rw [Bool.eq_iff_iff]; simp; omega))
  · by_cases h1 : l = 0
    · skip
      go_enter Tryd.func13, Tryd.ntmps13
      go_wp2
      all_goals first
        | (exfalso; omega)
        | (go_ret
           refine ⟨?_, by go_grown⟩
           first
             | (simp [properZ, *]; done)
             | (simp [properZ, *]; omega)
             | (refine ret_bool ?_; unfold properZ; rw [Bool.eq_iff_iff]; simp; omega))
    · skip
      go_enter Tryd.func13, Tryd.ntmps13
      go_wp2
      all_goals first
        | (exfalso; omega)
        | (go_ret
           refine ⟨?_, by go_grown⟩
           first
             | (simp [properZ, *]; done)
             | (simp [properZ, *]; omega)
             | (refine ret_bool ?_; unfold properZ; rw [Bool.eq_iff_iff]; simp; omega))
  · by_cases h1 : l = 0
    · skip
      go_enter Tryd.func13, Tryd.ntmps13
      go_wp2
      all_goals first
        | (exfalso; omega)
        | (go_ret
           refine ⟨?_, by go_grown⟩
           first
             | (simp [properZ, *]; done)
             | (simp [properZ, *]; omega)
             | (refine ret_bool ?_; unfold properZ; rw [Bool.eq_iff_iff]; simp; omega))
    · skip
      go_enter Tryd.func13, Tryd.ntmps13
      go_wp2
      all_goals first
        | (exfalso; omega)
        | (go_ret
           refine ⟨?_, by go_grown⟩
           first
             | (simp [properZ, *]; done)
             | (simp [properZ, *]; omega)
             | (refine ret_bool ?_; unfold properZ; rw [Bool.eq_iff_iff]; simp; omega))
  · obtain ⟨n0, n3, n18, n37, n40, n42, n53⟩ := properZ_none op h
    go_enter Tryd.func13, Tryd.ntmps13
    go_wp2
    all_goals first
      | (exfalso; omega)
      | (go_ret
         refine ⟨?_, by go_grown⟩
         first
           | (simp [properZ, *]; done)
           | (simp [properZ, *]; omega)
           | (refine ret_bool ?_; unfold properZ; rw [Bool.eq_iff_iff]; simp; omega))
end Go.Proofs.YtfojemocffelhaaDoor
