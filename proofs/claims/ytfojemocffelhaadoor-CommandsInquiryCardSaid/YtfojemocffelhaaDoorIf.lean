
/- DecodeInquiry. -/
import Derived.Test.YtfojemocffelhaaDoorChecked
import Derived.Deep.RegionHeld3
import Derived.Deep.DrawnRows
import Derived.Deep.DeepCutAuto
import Derived.Deep.LoopGhost
import Derived.Outline
import Derived.Handy
import Derived.OwnWalk
import Derived.Laws.BitsAllLaws
import Derived.Deep.QuietTactic
import Derived.BigQuiet
import Derived.StillTailTactics
import Derived.Test.YtfojemocffelhaaDoorIe
set_option linter.unusedVariables false
set_option linter.unusedSimpArgs false
set_option linter.unusedSectionVars false
namespace Go.Proofs.YtfojemocffelhaaDoor
open Go.RowKit Go.Shelf
attribute [local go_sem ↓] Go.wp_at_zero Go.wp_at_succ

set_option maxRecDepth 100000 in
set_option maxHeartbeats 2000000 in
theorem dinq_short (A : Option Addr) (n c : Nat) (w : World) (hn : n < 36) :
    Calls Tryd.prog 23 #[.slice A n c] w fun e w' => e = .returned (.tuple #[.agg #[.string ⟨#[]⟩, .string ⟨#[]⟩, .string ⟨#[]⟩, .bool false], .int .i64 5]) ∧ Kept w w' := by
  have hn' : (n : Int) < 36 := by omega
  go_enter Tryd.func23, Tryd.ntmps23
  go_wp2_with fail
  refine bodyPost_ret (v := .tuple #[.agg #[.string ⟨#[]⟩, .string ⟨#[]⟩, .string ⟨#[]⟩, .bool false], .int .i64 5]) (by simp [results, Tryd.results23, go_sem]) rfl ?_
  exact ⟨rfl, by go_grown⟩
set_option maxRecDepth 100000 in
set_option maxHeartbeats 2000000 in
theorem dinq_zero (b off n c : Nat) (z : Int) (w : World) (hn : 36 ≤ n) (hb : b < w.heap.size) (h0 : w.cell? ⟨b, off, none⟩ = some (.int .u8 z)) (hz : z ≠ 0) :
    Calls Tryd.prog 23 #[.slice (some ⟨b, off, none⟩) n c] w fun e w' => e = .returned (.tuple #[.agg #[.string ⟨#[]⟩, .string ⟨#[]⟩, .string ⟨#[]⟩, .bool false], .int .i64 4]) ∧ Kept w w' := by
  have hn' : (36 : Int) ≤ (n : Int) := by omega
  have hn0 : (0 : Int) < (n : Int) := by omega
  go_enter Tryd.func23, Tryd.ntmps23
  go_wp2_with fail
  refine bodyPost_ret (v := .tuple #[.agg #[.string ⟨#[]⟩, .string ⟨#[]⟩, .string ⟨#[]⟩, .bool false], .int .i64 4]) (by simp [results, Tryd.results23, go_sem]) rfl ?_
  exact ⟨rfl, by go_grown⟩
set_option maxRecDepth 100000 in
set_option maxHeartbeats 4000000 in
theorem dinq_bad (b off n c : Nat) (bs : List UInt8) (w : World) (hl : bs.length = n) (hn : 36 ≤ n) (hnc : n ≤ c) (hB : Bs w b off bs) (h0 : w.cell? ⟨b, off, none⟩ = some (.int .u8 0)) (hp : prL ((bs.drop 8).take 28) = false) :
    Calls Tryd.prog 23 #[.slice (some ⟨b, off, none⟩) n c] w fun e w' => e = .returned (.tuple #[.agg #[.string ⟨#[]⟩, .string ⟨#[]⟩, .string ⟨#[]⟩, .bool false], .int .i64 4]) ∧ Kept w w' := by
  have hbw := hB.1
  have hn' : (36 : Int) ≤ (n : Int) := by omega
  have hn0 : (0 : Int) < (n : Int) := by omega
  have h1 : (36 : Int) ≤ (c : Int) := by omega
  have h3 : (8 : Int) < (c : Int) := by omega
  have hcv : ∀ W cap, Kept w W → (convert 32 9 (.slice (some ⟨b, off + 8, none⟩) 28 cap)).run Tryd.prog W = .ok (.string ⟨((bs.drop 8).take 28).toArray⟩) W := fun W cap hk => (((hB.kept hk).drop 8).take 28).conv 28 cap (by simp; omega)
  have hP : ∀ w, _ := fun w => printable_any ⟨((bs.drop 8).take 28).toArray⟩ w
  simp only [hp] at hP
  clear hl hB hp
  generalize (⟨((bs.drop 8).take 28).toArray⟩ : ByteArray) = S at *
  go_enter Tryd.func23, Tryd.ntmps23
  go_upto_region 1 with (fail)
  refine wp_name (B := w.heap.size) (w0 := w) (by go_grown) (fun W hcW hfW hz hkW => ?_)
  simp only [World.size_alloc] at hz
  have hcv := fun cap => hcv W cap hkW
  go_wp2_with (go_at_call 35; refine (hP _).mono ?_; rintro e w1 ⟨rfl, hk1⟩; obtain ⟨hc1, hf1⟩ := bcell hk1; have hs1 := hk1.size)
  refine bodyPost_ret (v := .tuple #[.agg #[.string ⟨#[]⟩, .string ⟨#[]⟩, .string ⟨#[]⟩, .bool false], .int .i64 4]) (by simp [results, Tryd.results23, go_sem, hc1, hcW, hz]) rfl ?_
  exact ⟨rfl, ((((hkW.trans (hk1.mono (by omega))).setCell (Nat.le_succ _) _).setCell (Nat.le_succ _) _).setCell (Nat.le_succ _) _).setCell (Nat.le_succ _) _⟩
set_option maxRecDepth 100000 in
set_option maxHeartbeats 4000000 in
theorem dinq_ok (b off n c : Nat) (bs : List UInt8) (x : UInt8) (w : World) (hl : bs.length = n) (hn : 36 ≤ n) (hnc : n ≤ c) (hB : Bs w b off bs) (h0 : w.cell? ⟨b, off, none⟩ = some (.int .u8 0)) (hx : bs[1]? = some x) (hp : prL ((bs.drop 8).take 28) = true) :
    Calls Tryd.prog 23 #[.slice (some ⟨b, off, none⟩) n c] w fun e w' => e = .returned (.tuple #[.agg #[.string (cutS bs 8 8), .string (cutS bs 16 16), .string (cutS bs 32 4), .bool (decide (128 ≤ (x.toNat : Int)))], .int .i64 0]) ∧ Kept w w' := by
  have hbw := hB.1
  have hn' : (36 : Int) ≤ (n : Int) := by omega
  have hn0 : (0 : Int) < (n : Int) := by omega
  have hn1 : (1 : Int) < (n : Int) := by omega
  have h1 : (36 : Int) ≤ (c : Int) := by omega
  have h3 : (8 : Int) < (c : Int) := by omega
  have hcv : ∀ W cap, Kept w W → (convert 32 9 (.slice (some ⟨b, off + 8, none⟩) 28 cap)).run Tryd.prog W = .ok (.string ⟨((bs.drop 8).take 28).toArray⟩) W := fun W cap hk => (((hB.kept hk).drop 8).take 28).conv 28 cap (by simp; omega)
  have hP : ∀ w, _ := fun w => printable_any ⟨((bs.drop 8).take 28).toArray⟩ w
  simp only [hp] at hP
  have c8 : ∀ W B, Kept w W → W.cell? ⟨B, 0, none⟩ = some (.slice (some ⟨b, off, none⟩) n c) → B < W.heap.size → _ := fun W B hk h1 h2 => (cut_8 b off n c B bs W hl hn hnc (hB.kept hk) h1 h2).mono fun _ _ ⟨h1, h2⟩ => And.intro h1 h2.symm
  have c16 : ∀ W B, Kept w W → W.cell? ⟨B, 0, none⟩ = some (.slice (some ⟨b, off, none⟩) n c) → B < W.heap.size → _ := fun W B hk h1 h2 => (cut_16 b off n c B bs W hl hn hnc (hB.kept hk) h1 h2).mono fun _ _ ⟨h1, h2⟩ => And.intro h1 h2.symm
  have c32 : ∀ W B, Kept w W → W.cell? ⟨B, 0, none⟩ = some (.slice (some ⟨b, off, none⟩) n c) → B < W.heap.size → _ := fun W B hk h1 h2 => (cut_32 b off n c B bs W hl hn hnc (hB.kept hk) h1 h2).mono fun _ _ ⟨h1, h2⟩ => And.intro h1 h2.symm
  have hx1 := hB.2 1 x hx
  have hand : bits .and .u8 (x.toNat : Int) 128 = if 128 ≤ x.toNat then 128 else 0 := by
    have h1 := u8_and_nat x.toNat 128 (by have := x.toNat_lt; omega) (by omega)
    have h2 : ∀ z, z < 256 → z &&& 128 = if 128 ≤ z then 128 else 0 := by decide
    rw [h2 _ x.toNat_lt] at h1
    refine h1.trans ?_
    split <;> rfl
  have hbz : (bits .and .u8 (x.toNat : Int) 128 != 0) = decide (128 ≤ (x.toNat : Int)) := by
    rw [hand]
    by_cases h : 128 ≤ x.toNat
    · rw [if_pos h]
      have : decide (128 ≤ (x.toNat : Int)) = true := by simp; omega
      rw [this]; rfl
    · rw [if_neg h]
      have : decide (128 ≤ (x.toNat : Int)) = false := by simp; omega
      rw [this]; rfl
  generalize decide (128 ≤ (x.toNat : Int)) = Bz at *
  clear hl hB hp hx hand
  generalize (⟨((bs.drop 8).take 28).toArray⟩ : ByteArray) = S at *
  generalize cutS bs 8 8 = S1 at *
  generalize cutS bs 16 16 = S2 at *
  generalize cutS bs 32 4 = S3 at *
  go_enter Tryd.func23, Tryd.ntmps23
  go_upto_region 1 with (fail)
  refine wp_name (B := w.heap.size) (w0 := w) (by go_grown) (fun W hcW hfW hz hkW => ?_)
  simp only [World.size_alloc] at hz
  have hcv := fun cap => hcv W cap hkW
  go_wp2_with (go_at_call 35; refine (hP _).mono ?_; rintro e w1 ⟨rfl, hk1⟩; obtain ⟨hc1, hf1⟩ := bcell hk1; have hs1 := hk1.size)
  have hkw1 : Kept w w1 := hkW.trans (hk1.mono (by omega))
  have hb0 : w1.cell? ⟨w.heap.size, 0, none⟩ = some (.slice (some ⟨b, off, none⟩) n c) := (hc1 _ _ (by omega)).trans ((hcW _ _).trans (by simp))
  have hx2 : w1.cell? ⟨b, off + 1, none⟩ = some (.int .u8 (x.toNat : Int)) := (hkw1.cell (p := ⟨b, off + 1, none⟩) hbw).trans hx1
  have d8 := c8 w1.drew w.heap.size hkw1.drew hb0 (show _ < w1.heap.size by omega)
  have d16 := c16 w1.drew w.heap.size hkw1.drew hb0 (show _ < w1.heap.size by omega)
  have d32 := c32 w1.drew w.heap.size hkw1.drew hb0 (show _ < w1.heap.size by omega)
  clear c8 c16 c32
  refine wp_region_still_tail 12 (by kernel_rfl) (by kernel_rfl) ?_
  simp only [List.take_succ_cons, List.take_zero, List.drop_succ_cons, List.drop_zero]
  still_step
  still_call d8
  still_step
  still_call d16
  still_step
  still_call d32
  clear d8 d16 d32
  repeat still_step
  try refine wpStill_nil ?_
  go_wp2_with fail
  refine bodyPost_ret (v := .tuple #[.agg #[.string S1, .string S2, .string S3, .bool Bz], .int .i64 0]) (by simp [results, Tryd.results23, go_sem, hc1, hcW, hz]) rfl ?_
  exact ⟨rfl, ((((hkw1.drew).setCell (Nat.le_succ _) _).setCell (Nat.le_succ _) _).setCell (Nat.le_succ _) _).setCell (Nat.le_succ _) _⟩
end Go.Proofs.YtfojemocffelhaaDoor
