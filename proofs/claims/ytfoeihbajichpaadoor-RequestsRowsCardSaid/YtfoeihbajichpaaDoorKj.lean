
/- The law's own check of a request: what it answers, receiver by receiver. The numbers lie in their kinds. -/
import Derived.Test.YtfoeihbajichpaaDoorChecked
import Derived.Deep.RegionHeld3
import Derived.Deep.DrawnRows
import Derived.Deep.DeepCutAuto
import Derived.Deep.LoopGhost
import Derived.Outline
import Derived.Handy
import Derived.OwnWalk
import Derived.Laws.EntriesVeiled
import Derived.Test.YtfoeihbajichpaaDoorKa
import Derived.Test.YtfoeihbajichpaaDoorSd
set_option linter.unusedVariables false
set_option linter.unusedSimpArgs false
set_option linter.unusedSectionVars false
namespace Go.Proofs.YtfoeihbajichpaaDoor
open Go.RowKit Go.Lib
attribute [local go_sem ↓] Go.wp_at_zero Go.wp_at_succ

set_option maxRecDepth 100000 in
set_option maxHeartbeats 16000000 in
theorem lawcheck_R0T (c t v x l : Int) (w : World) (t0 : 0 ≤ t) (t1 : t < 256) (c0 : 0 ≤ c) (c1 : c < 256) (v0 : 0 ≤ v) (x0 : 0 ≤ x) (l0 : 0 ≤ l) (hk0 : t / 32 % 4 = 0) (hn : nameW c ≠ [])
    (hcs : c = 0 ∨ c = 1 ∨ c = 3 ∨ c = 5 ∨ c = 6 ∨ c = 7 ∨ c = 8 ∨ c = 9 ∨ c = 10 ∨ c = 11 ∨ c = 12) (hR : t % 32 = 0) (hX : x = 0) :
    Calls Tryd.prog 16 #[.agg #[.int .u8 (t), .int .u8 (c), .int .u16 (v), .int .u16 (x), .int .u16 (l)]] w fun e w' => e = .returned (.int .i64 (ansL (fitsL c (decide (128 ≤ t)) (devL t x) (numL t x) (endL t x) (t % 32) v l))) ∧ Kept w w' := by
  have hb : (t / 32 % 4 != 0) = false := by simp [hk0]
  have HN := fun W => nameL_any c W c0 c1
  have hnm2 : (B8 (nameW c)).toList ≠ [] := by simp [B8, ByteArray.toList_eq, hn]
  have hnm : (B8 (nameW c)).toList.isEmpty = false := by simp [hnm2]
  have hx1 : (x == 0) = true := by simp [hX]
  have hD : devL t x = true := by unfold devL; (first | rw [hR] | skip); simp_all
  have hN : numL t x = false := by unfold numL; (first | rw [hR] | skip); simp_all
  have hE : endL t x = false := by unfold endL; (first | rw [hR] | skip); simp_all
  rw [hD, hN, hE]
  clear hk0 hn hD hN hE hX
  obtain ⟨I, hI⟩ : ∃ I, decide (128 ≤ t) = I := ⟨_, rfl⟩
  rw [hI]
  rcases hcs with rfl | rfl | rfl | rfl | rfl | rfl | rfl | rfl | rfl | rfl | rfl
  all_goals
    go_enter Tryd.func16, Tryd.ntmps16
    go_wp2_with (first
      | (go_at_call 34; refine (HN _).mono ?_; rintro e w1 ⟨rfl, rfl⟩)
      | (go_at_call 35; refine (addr_any x _ x0).mono ?_; rintro e w1 ⟨rfl, rfl⟩))
    all_goals go_ret
    all_goals exact ⟨ret_int (by clear HN; simp_all [fitsL, ansL] <;> omega), by go_grown⟩
set_option maxRecDepth 100000 in
set_option maxHeartbeats 16000000 in
theorem lawcheck_R0F (c t v x l : Int) (w : World) (t0 : 0 ≤ t) (t1 : t < 256) (c0 : 0 ≤ c) (c1 : c < 256) (v0 : 0 ≤ v) (x0 : 0 ≤ x) (l0 : 0 ≤ l) (hk0 : t / 32 % 4 = 0) (hn : nameW c ≠ [])
    (hcs : c = 0 ∨ c = 1 ∨ c = 3 ∨ c = 5 ∨ c = 6 ∨ c = 7 ∨ c = 8 ∨ c = 9 ∨ c = 10 ∨ c = 11 ∨ c = 12) (hR : t % 32 = 0) (hX : x ≠ 0) :
    Calls Tryd.prog 16 #[.agg #[.int .u8 (t), .int .u8 (c), .int .u16 (v), .int .u16 (x), .int .u16 (l)]] w fun e w' => e = .returned (.int .i64 (ansL (fitsL c (decide (128 ≤ t)) (devL t x) (numL t x) (endL t x) (t % 32) v l))) ∧ Kept w w' := by
  have hb : (t / 32 % 4 != 0) = false := by simp [hk0]
  have HN := fun W => nameL_any c W c0 c1
  have hnm2 : (B8 (nameW c)).toList ≠ [] := by simp [B8, ByteArray.toList_eq, hn]
  have hnm : (B8 (nameW c)).toList.isEmpty = false := by simp [hnm2]
  have hx1 : (x == 0) = false := by simp [hX]
  have hD : devL t x = false := by unfold devL; (first | rw [hR] | skip); simp_all
  have hN : numL t x = false := by unfold numL; (first | rw [hR] | skip); simp_all
  have hE : endL t x = false := by unfold endL; (first | rw [hR] | skip); simp_all
  rw [hD, hN, hE]
  clear hk0 hn hD hN hE hX
  obtain ⟨I, hI⟩ : ∃ I, decide (128 ≤ t) = I := ⟨_, rfl⟩
  rw [hI]
  rcases hcs with rfl | rfl | rfl | rfl | rfl | rfl | rfl | rfl | rfl | rfl | rfl
  all_goals
    go_enter Tryd.func16, Tryd.ntmps16
    go_wp2_with (first
      | (go_at_call 34; refine (HN _).mono ?_; rintro e w1 ⟨rfl, rfl⟩)
      | (go_at_call 35; refine (addr_any x _ x0).mono ?_; rintro e w1 ⟨rfl, rfl⟩))
    all_goals go_ret
    all_goals exact ⟨ret_int (by clear HN; simp_all [fitsL, ansL] <;> omega), by go_grown⟩
end Go.Proofs.YtfoeihbajichpaaDoor
