


/- CommandsMoves: READ. -/
import Derived.Test.YtfojemocffelhaaDoorChecked
import Derived.Deep.RegionHeld3
import Derived.Deep.DrawnRows
import Derived.Deep.DeepCutAuto
import Derived.Deep.LoopGhost
import Derived.Outline
import Derived.Handy
import Derived.OwnWalk
import Derived.Test.YtfojemocffelhaaDoorLd
set_option linter.unusedVariables false
set_option linter.unusedSimpArgs false
set_option linter.unusedSectionVars false
namespace Go.Proofs.YtfojemocffelhaaDoor
open Go.RowKit
attribute [local go_sem ↓] Go.wp_at_zero Go.wp_at_succ

set_option maxRecDepth 100000 in
set_option maxHeartbeats 4000000 in
theorem mv_read_lo (b c l size : Int) (w : World) (hT : Tabs w) (hb0 : 0 ≤ b) (hb : b < 4294967296) (hc0 : 0 ≤ c) (hc : c < 65536) (tb tc : ByteArray) (hb9 : tb.size ≤ 100) (hc9 : tc.size ≤ 100) (hdb : ∀ w, Calls Tryd.prog 15 #[.int .u64 b] w fun e w' => e = .returned (.string tb) ∧ Kept w w') (hdc : ∀ w, Calls Tryd.prog 15 #[.int .u64 c] w fun e w' => e = .returned (.string tc) ∧ Kept w w') (hs1 : size < 1)
    (h9 : ∀ w, Tabs w → Calls Tryd.prog 9 #[.agg #[.int .u8 40, .int .u32 b, .int .u16 c, .int .i64 l], .int .i64 size] w fun e w' => e = .returned (.tuple #[.int .u8 0, .int .i64 (0), .int .i64 1]) ∧ Kept w w')
    (h10 : ∀ w, Tabs w → Calls Tryd.prog 10 #[.agg #[.int .u8 40, .int .u32 b, .int .u16 c, .int .i64 l]] w fun e w' => e = .returned (.string (((⟨#[82, 69, 65, 68, 32]⟩ ++ tb) ++ ⟨#[32]⟩) ++ tc)) ∧ Kept w w')
    (h11 : ∀ w, Tabs w → Calls Tryd.prog 11 #[.agg #[.int .u8 40, .int .u32 b, .int .u16 c, .int .i64 l]] w fun e w' => ∃ vb, e = .returned (.tuple #[vb, .int .i64 0]) ∧ Kept w w')
    (h12 : ∀ w, Tabs w → Calls Tryd.prog 12 #[.agg #[.int .u8 40, .int .u32 b, .int .u16 c, .int .i64 l]] w fun e w' => e = .returned (.bool true) ∧ Kept w w')
    (h13 : ∀ w, Calls Tryd.prog 13 #[.agg #[.int .u8 40, .int .u32 b, .int .u16 c, .int .i64 l]] w fun e w' => e = .returned (.bool true) ∧ Kept w w') :
    Calls Tryd.prog 3 #[.agg #[.int .u8 40, .int .u32 b, .int .u16 c, .int .i64 l], .int .i64 size] w fun e w' => e = .returned (.bool true) ∧ Kept w w' := by
  have hsz : (⟨#[82, 69, 65, 68, 32]⟩ : ByteArray).size ≤ 100 := by decide
  have z32 : (⟨#[32]⟩ : ByteArray).size = 1 := rfl
  have a1 : ∀ W : World, (Op.stringOp .add ⟨#[82, 69, 65, 68, 32]⟩ tb).run Tryd.prog W = .ok (.string (⟨#[82, 69, 65, 68, 32]⟩ ++ tb)) W := fun W => run_string_add_sum W _ _ (by omega)
  have a2 : ∀ W : World, (Op.stringOp .add (⟨#[82, 69, 65, 68, 32]⟩ ++ tb) ⟨#[32]⟩).run Tryd.prog W = .ok (.string ((⟨#[82, 69, 65, 68, 32]⟩ ++ tb) ++ ⟨#[32]⟩)) W := fun W => run_string_add_sum W _ _ (by rw [ByteArray.size_append, z32]; omega)
  have a3 : ∀ W : World, (Op.stringOp .add ((⟨#[82, 69, 65, 68, 32]⟩ ++ tb) ++ ⟨#[32]⟩) tc).run Tryd.prog W = .ok (.string (((⟨#[82, 69, 65, 68, 32]⟩ ++ tb) ++ ⟨#[32]⟩) ++ tc)) W := fun W => run_string_add_sum W _ _ (by rw [ByteArray.size_append, ByteArray.size_append, z32]; omega)
  have hwb : IntKind.u64.wrap b = b := by rw [IntKind.wrap_u64]; omega
  have hwc : IntKind.u64.wrap c = c := by rw [IntKind.wrap_u64]; omega
  have hwi : IntKind.i64.wrap c = c := by rw [IntKind.wrap_i64]; omega
  clear hsz z32
  skip
  go_enter Tryd.func3, Tryd.ntmps3
  go_wp2_with (first
  | (go_at_call 9; refine (h9 _ (by exact hT.alloc _)).mono ?_; rintro e w1 ⟨rfl, hk1⟩; obtain ⟨hc1, hf1⟩ := bcell hk1; have hs1 := hk1.size; simp only [World.size_alloc] at hc1 hf1 hs1; have hkw1 : Kept w w1 := ((Below.refl _ w).alloc (Nat.le_refl _) _).trans (hk1.mono (by simp)); have hT1 := hT.kept hkw1; have hlt1 : w.heap.size < w1.heap.size := (by omega); dsimp only)
  | (go_at_call 10; refine (h10 _ hT1).mono ?_; rintro e w2 ⟨rfl, hk2⟩; obtain ⟨hc2, hf2⟩ := bcell hk2; have hs2 := hk2.size; have hkw2 : Kept w w2 := hkw1.trans (hk2.mono (by omega)); have hT2 := hT.kept hkw2; have hlt2 : w.heap.size < w2.heap.size := (by omega); dsimp only)
  | (go_at_call 11; refine (h11 _ hT2).mono ?_; rintro e w3 ⟨vb, rfl, hk3⟩; obtain ⟨hc3, hf3⟩ := bcell hk3; have hs3 := hk3.size; have hkw3 : Kept w w3 := hkw2.trans (hk3.mono (by omega)); have hT3 := hT.kept hkw3; have hlt3 : w.heap.size < w3.heap.size := (by omega); dsimp only))
  refine wp_name (B := w.heap.size) (w0 := w) (by go_grown) (fun W hcW hfW hz hkW => ?_)
  have hTW := hT.kept hkW
  go_region_held3 (fun w' => (∀ b o, b < W.heap.size → w'.cell? ⟨b, o, none⟩ = W.cell? ⟨b, o, none⟩) ∧ Below W.heap.size W w') (first | assumption | exact since_start | exact since_keep (by assumption) (Nat.le_refl _) hk) (first
    | (go_at_call 12; refine (h12 _ (by first | exact hTW.drew | exact hTW.kept (‹(∀ b o, b < W.heap.size → _) ∧ Below W.heap.size W _›).2)).mono ?_; rintro e w5 ⟨rfl, hk⟩)
    | (go_at_call 13; refine (h13 _).mono ?_; rintro e w5 ⟨rfl, hk⟩))
  have hk5 : Kept w w5 := Below.trans hkW ((‹(∀ b o, b < W.heap.size → _) ∧ Below W.heap.size W w5›).2.mono (by omega))
  have hc5 : ∀ b o, b < W.heap.size → w5.cell? ⟨b, o, none⟩ = W.cell? ⟨b, o, none⟩ := (‹(∀ b o, b < W.heap.size → w5.cell? _ = _) ∧ Below W.heap.size W w5›).1
  have hs5 : W.heap.size ≤ w5.heap.size := (‹(∀ b o, b < W.heap.size → w5.cell? _ = _) ∧ Below W.heap.size W w5›).2.size
  have hT5 := hT.kept hk5
  have hlt5 : w.heap.size < w5.heap.size := (by omega)
  go_wp2_with (go_at_call 13; refine (h13 _).mono ?_; rintro e w6 ⟨rfl, hk6⟩; obtain ⟨hc6, hf6⟩ := bcell hk6; have hs6 := hk6.size; have hkw6 : Kept w w6 := hk5.trans (hk6.mono (by omega)); have hT6 := hT.kept hkw6; have hlt6 : w.heap.size < w6.heap.size := (by omega))
  refine wp_name (B := w.heap.size) (w0 := w) (by go_grown) (fun W6 hcW6 hfW6 hz6 hkW6 => ?_)
  go_region_held3 (fun w' => (∀ b o, b < W6.heap.size → w'.cell? ⟨b, o, none⟩ = W6.cell? ⟨b, o, none⟩) ∧ Below W6.heap.size W6 w') (first | assumption | exact since_start | exact since_keep (by assumption) (Nat.le_refl _) hk) (first
    | (go_at_call 15; (with_reducible refine (hdb _).mono ?_); rintro e w8 ⟨rfl, hk⟩)
    | (go_at_call 15; (with_reducible refine (hdc _).mono ?_); rintro e w8 ⟨rfl, hk⟩))
  have hkw8 : Kept w w8 := Below.trans hkW6 ((‹(∀ b o, b < W6.heap.size → _) ∧ Below W6.heap.size W6 w8›).2.mono (by omega))
  have hc8 : ∀ b o, b < W6.heap.size → w8.cell? ⟨b, o, none⟩ = W6.cell? ⟨b, o, none⟩ := (‹(∀ b o, b < W6.heap.size → w8.cell? _ = _) ∧ Below W6.heap.size W6 w8›).1
  have hs8 : W6.heap.size ≤ w8.heap.size := (‹(∀ b o, b < W6.heap.size → w8.cell? _ = _) ∧ Below W6.heap.size W6 w8›).2.size
  have hT8 := hT.kept hkw8
  have hlt8 : w.heap.size < w8.heap.size := (by omega)
  go_wp2_with (go_at_call 14; refine (lives_any _ hT8).mono ?_; rintro e w7 ⟨rfl, hk7⟩; have hkw7 : Kept w w7 := hkw8.trans (hk7.mono (by omega)))
  go_ret
  exact ⟨rfl, hkw7⟩
set_option maxRecDepth 100000 in
set_option maxHeartbeats 4000000 in
theorem mv_read_hi (b c l size : Int) (w : World) (hT : Tabs w) (hb0 : 0 ≤ b) (hb : b < 4294967296) (hc0 : 0 ≤ c) (hc : c < 65536) (tb tc : ByteArray) (hb9 : tb.size ≤ 100) (hc9 : tc.size ≤ 100) (hdb : ∀ w, Calls Tryd.prog 15 #[.int .u64 b] w fun e w' => e = .returned (.string tb) ∧ Kept w w') (hdc : ∀ w, Calls Tryd.prog 15 #[.int .u64 c] w fun e w' => e = .returned (.string tc) ∧ Kept w w') (hs1 : 4096 < size)
    (h9 : ∀ w, Tabs w → Calls Tryd.prog 9 #[.agg #[.int .u8 40, .int .u32 b, .int .u16 c, .int .i64 l], .int .i64 size] w fun e w' => e = .returned (.tuple #[.int .u8 0, .int .i64 (0), .int .i64 1]) ∧ Kept w w')
    (h10 : ∀ w, Tabs w → Calls Tryd.prog 10 #[.agg #[.int .u8 40, .int .u32 b, .int .u16 c, .int .i64 l]] w fun e w' => e = .returned (.string (((⟨#[82, 69, 65, 68, 32]⟩ ++ tb) ++ ⟨#[32]⟩) ++ tc)) ∧ Kept w w')
    (h11 : ∀ w, Tabs w → Calls Tryd.prog 11 #[.agg #[.int .u8 40, .int .u32 b, .int .u16 c, .int .i64 l]] w fun e w' => ∃ vb, e = .returned (.tuple #[vb, .int .i64 0]) ∧ Kept w w')
    (h12 : ∀ w, Tabs w → Calls Tryd.prog 12 #[.agg #[.int .u8 40, .int .u32 b, .int .u16 c, .int .i64 l]] w fun e w' => e = .returned (.bool true) ∧ Kept w w')
    (h13 : ∀ w, Calls Tryd.prog 13 #[.agg #[.int .u8 40, .int .u32 b, .int .u16 c, .int .i64 l]] w fun e w' => e = .returned (.bool true) ∧ Kept w w') :
    Calls Tryd.prog 3 #[.agg #[.int .u8 40, .int .u32 b, .int .u16 c, .int .i64 l], .int .i64 size] w fun e w' => e = .returned (.bool true) ∧ Kept w w' := by
  have hsz : (⟨#[82, 69, 65, 68, 32]⟩ : ByteArray).size ≤ 100 := by decide
  have z32 : (⟨#[32]⟩ : ByteArray).size = 1 := rfl
  have a1 : ∀ W : World, (Op.stringOp .add ⟨#[82, 69, 65, 68, 32]⟩ tb).run Tryd.prog W = .ok (.string (⟨#[82, 69, 65, 68, 32]⟩ ++ tb)) W := fun W => run_string_add_sum W _ _ (by omega)
  have a2 : ∀ W : World, (Op.stringOp .add (⟨#[82, 69, 65, 68, 32]⟩ ++ tb) ⟨#[32]⟩).run Tryd.prog W = .ok (.string ((⟨#[82, 69, 65, 68, 32]⟩ ++ tb) ++ ⟨#[32]⟩)) W := fun W => run_string_add_sum W _ _ (by rw [ByteArray.size_append, z32]; omega)
  have a3 : ∀ W : World, (Op.stringOp .add ((⟨#[82, 69, 65, 68, 32]⟩ ++ tb) ++ ⟨#[32]⟩) tc).run Tryd.prog W = .ok (.string (((⟨#[82, 69, 65, 68, 32]⟩ ++ tb) ++ ⟨#[32]⟩) ++ tc)) W := fun W => run_string_add_sum W _ _ (by rw [ByteArray.size_append, ByteArray.size_append, z32]; omega)
  have hwb : IntKind.u64.wrap b = b := by rw [IntKind.wrap_u64]; omega
  have hwc : IntKind.u64.wrap c = c := by rw [IntKind.wrap_u64]; omega
  have hwi : IntKind.i64.wrap c = c := by rw [IntKind.wrap_i64]; omega
  clear hsz z32
  skip
  go_enter Tryd.func3, Tryd.ntmps3
  go_wp2_with (first
  | (go_at_call 9; refine (h9 _ (by exact hT.alloc _)).mono ?_; rintro e w1 ⟨rfl, hk1⟩; obtain ⟨hc1, hf1⟩ := bcell hk1; have hs1 := hk1.size; simp only [World.size_alloc] at hc1 hf1 hs1; have hkw1 : Kept w w1 := ((Below.refl _ w).alloc (Nat.le_refl _) _).trans (hk1.mono (by simp)); have hT1 := hT.kept hkw1; have hlt1 : w.heap.size < w1.heap.size := (by omega); dsimp only)
  | (go_at_call 10; refine (h10 _ hT1).mono ?_; rintro e w2 ⟨rfl, hk2⟩; obtain ⟨hc2, hf2⟩ := bcell hk2; have hs2 := hk2.size; have hkw2 : Kept w w2 := hkw1.trans (hk2.mono (by omega)); have hT2 := hT.kept hkw2; have hlt2 : w.heap.size < w2.heap.size := (by omega); dsimp only)
  | (go_at_call 11; refine (h11 _ hT2).mono ?_; rintro e w3 ⟨vb, rfl, hk3⟩; obtain ⟨hc3, hf3⟩ := bcell hk3; have hs3 := hk3.size; have hkw3 : Kept w w3 := hkw2.trans (hk3.mono (by omega)); have hT3 := hT.kept hkw3; have hlt3 : w.heap.size < w3.heap.size := (by omega); dsimp only))
  refine wp_name (B := w.heap.size) (w0 := w) (by go_grown) (fun W hcW hfW hz hkW => ?_)
  have hTW := hT.kept hkW
  go_region_held3 (fun w' => (∀ b o, b < W.heap.size → w'.cell? ⟨b, o, none⟩ = W.cell? ⟨b, o, none⟩) ∧ Below W.heap.size W w') (first | assumption | exact since_start | exact since_keep (by assumption) (Nat.le_refl _) hk) (first
    | (go_at_call 12; refine (h12 _ (by first | exact hTW.drew | exact hTW.kept (‹(∀ b o, b < W.heap.size → _) ∧ Below W.heap.size W _›).2)).mono ?_; rintro e w5 ⟨rfl, hk⟩)
    | (go_at_call 13; refine (h13 _).mono ?_; rintro e w5 ⟨rfl, hk⟩))
  have hk5 : Kept w w5 := Below.trans hkW ((‹(∀ b o, b < W.heap.size → _) ∧ Below W.heap.size W w5›).2.mono (by omega))
  have hc5 : ∀ b o, b < W.heap.size → w5.cell? ⟨b, o, none⟩ = W.cell? ⟨b, o, none⟩ := (‹(∀ b o, b < W.heap.size → w5.cell? _ = _) ∧ Below W.heap.size W w5›).1
  have hs5 : W.heap.size ≤ w5.heap.size := (‹(∀ b o, b < W.heap.size → w5.cell? _ = _) ∧ Below W.heap.size W w5›).2.size
  have hT5 := hT.kept hk5
  have hlt5 : w.heap.size < w5.heap.size := (by omega)
  go_wp2_with (go_at_call 13; refine (h13 _).mono ?_; rintro e w6 ⟨rfl, hk6⟩; obtain ⟨hc6, hf6⟩ := bcell hk6; have hs6 := hk6.size; have hkw6 : Kept w w6 := hk5.trans (hk6.mono (by omega)); have hT6 := hT.kept hkw6; have hlt6 : w.heap.size < w6.heap.size := (by omega))
  refine wp_name (B := w.heap.size) (w0 := w) (by go_grown) (fun W6 hcW6 hfW6 hz6 hkW6 => ?_)
  go_region_held3 (fun w' => (∀ b o, b < W6.heap.size → w'.cell? ⟨b, o, none⟩ = W6.cell? ⟨b, o, none⟩) ∧ Below W6.heap.size W6 w') (first | assumption | exact since_start | exact since_keep (by assumption) (Nat.le_refl _) hk) (first
    | (go_at_call 15; (with_reducible refine (hdb _).mono ?_); rintro e w8 ⟨rfl, hk⟩)
    | (go_at_call 15; (with_reducible refine (hdc _).mono ?_); rintro e w8 ⟨rfl, hk⟩))
  have hkw8 : Kept w w8 := Below.trans hkW6 ((‹(∀ b o, b < W6.heap.size → _) ∧ Below W6.heap.size W6 w8›).2.mono (by omega))
  have hc8 : ∀ b o, b < W6.heap.size → w8.cell? ⟨b, o, none⟩ = W6.cell? ⟨b, o, none⟩ := (‹(∀ b o, b < W6.heap.size → w8.cell? _ = _) ∧ Below W6.heap.size W6 w8›).1
  have hs8 : W6.heap.size ≤ w8.heap.size := (‹(∀ b o, b < W6.heap.size → w8.cell? _ = _) ∧ Below W6.heap.size W6 w8›).2.size
  have hT8 := hT.kept hkw8
  have hlt8 : w.heap.size < w8.heap.size := (by omega)
  go_wp2_with (go_at_call 14; refine (lives_any _ hT8).mono ?_; rintro e w7 ⟨rfl, hk7⟩; have hkw7 : Kept w w7 := hkw8.trans (hk7.mono (by omega)))
  go_ret
  exact ⟨rfl, hkw7⟩
set_option maxRecDepth 100000 in
set_option maxHeartbeats 4000000 in
theorem mv_read_0 (b c l size : Int) (w : World) (hT : Tabs w) (hb0 : 0 ≤ b) (hb : b < 4294967296) (hc0 : 0 ≤ c) (hc : c < 65536) (tb tc : ByteArray) (hb9 : tb.size ≤ 100) (hc9 : tc.size ≤ 100) (hdb : ∀ w, Calls Tryd.prog 15 #[.int .u64 b] w fun e w' => e = .returned (.string tb) ∧ Kept w w') (hdc : ∀ w, Calls Tryd.prog 15 #[.int .u64 c] w fun e w' => e = .returned (.string tc) ∧ Kept w w') (hs1 : 1 ≤ size) (hs2 : size ≤ 4096) (hz : c = 0)
    (h9 : ∀ w, Tabs w → Calls Tryd.prog 9 #[.agg #[.int .u8 40, .int .u32 b, .int .u16 c, .int .i64 l], .int .i64 size] w fun e w' => e = .returned (.tuple #[.int .u8 0, .int .i64 (0), .int .i64 0]) ∧ Kept w w')
    (h10 : ∀ w, Tabs w → Calls Tryd.prog 10 #[.agg #[.int .u8 40, .int .u32 b, .int .u16 c, .int .i64 l]] w fun e w' => e = .returned (.string (((⟨#[82, 69, 65, 68, 32]⟩ ++ tb) ++ ⟨#[32]⟩) ++ tc)) ∧ Kept w w')
    (h11 : ∀ w, Tabs w → Calls Tryd.prog 11 #[.agg #[.int .u8 40, .int .u32 b, .int .u16 c, .int .i64 l]] w fun e w' => ∃ vb, e = .returned (.tuple #[vb, .int .i64 0]) ∧ Kept w w')
    (h12 : ∀ w, Tabs w → Calls Tryd.prog 12 #[.agg #[.int .u8 40, .int .u32 b, .int .u16 c, .int .i64 l]] w fun e w' => e = .returned (.bool true) ∧ Kept w w')
    (h13 : ∀ w, Calls Tryd.prog 13 #[.agg #[.int .u8 40, .int .u32 b, .int .u16 c, .int .i64 l]] w fun e w' => e = .returned (.bool true) ∧ Kept w w') :
    Calls Tryd.prog 3 #[.agg #[.int .u8 40, .int .u32 b, .int .u16 c, .int .i64 l], .int .i64 size] w fun e w' => e = .returned (.bool true) ∧ Kept w w' := by
  have hsz : (⟨#[82, 69, 65, 68, 32]⟩ : ByteArray).size ≤ 100 := by decide
  have z32 : (⟨#[32]⟩ : ByteArray).size = 1 := rfl
  have a1 : ∀ W : World, (Op.stringOp .add ⟨#[82, 69, 65, 68, 32]⟩ tb).run Tryd.prog W = .ok (.string (⟨#[82, 69, 65, 68, 32]⟩ ++ tb)) W := fun W => run_string_add_sum W _ _ (by omega)
  have a2 : ∀ W : World, (Op.stringOp .add (⟨#[82, 69, 65, 68, 32]⟩ ++ tb) ⟨#[32]⟩).run Tryd.prog W = .ok (.string ((⟨#[82, 69, 65, 68, 32]⟩ ++ tb) ++ ⟨#[32]⟩)) W := fun W => run_string_add_sum W _ _ (by rw [ByteArray.size_append, z32]; omega)
  have a3 : ∀ W : World, (Op.stringOp .add ((⟨#[82, 69, 65, 68, 32]⟩ ++ tb) ++ ⟨#[32]⟩) tc).run Tryd.prog W = .ok (.string (((⟨#[82, 69, 65, 68, 32]⟩ ++ tb) ++ ⟨#[32]⟩) ++ tc)) W := fun W => run_string_add_sum W _ _ (by rw [ByteArray.size_append, ByteArray.size_append, z32]; omega)
  have hwb : IntKind.u64.wrap b = b := by rw [IntKind.wrap_u64]; omega
  have hwc : IntKind.u64.wrap c = c := by rw [IntKind.wrap_u64]; omega
  have hwi : IntKind.i64.wrap c = c := by rw [IntKind.wrap_i64]; omega
  clear hsz z32
  subst hz
  go_enter Tryd.func3, Tryd.ntmps3
  go_wp2_with (first
  | (go_at_call 9; refine (h9 _ (by exact hT.alloc _)).mono ?_; rintro e w1 ⟨rfl, hk1⟩; obtain ⟨hc1, hf1⟩ := bcell hk1; have hs1 := hk1.size; simp only [World.size_alloc] at hc1 hf1 hs1; have hkw1 : Kept w w1 := ((Below.refl _ w).alloc (Nat.le_refl _) _).trans (hk1.mono (by simp)); have hT1 := hT.kept hkw1; have hlt1 : w.heap.size < w1.heap.size := (by omega); dsimp only)
  | (go_at_call 10; refine (h10 _ hT1).mono ?_; rintro e w2 ⟨rfl, hk2⟩; obtain ⟨hc2, hf2⟩ := bcell hk2; have hs2 := hk2.size; have hkw2 : Kept w w2 := hkw1.trans (hk2.mono (by omega)); have hT2 := hT.kept hkw2; have hlt2 : w.heap.size < w2.heap.size := (by omega); dsimp only)
  | (go_at_call 11; refine (h11 _ hT2).mono ?_; rintro e w3 ⟨vb, rfl, hk3⟩; obtain ⟨hc3, hf3⟩ := bcell hk3; have hs3 := hk3.size; have hkw3 : Kept w w3 := hkw2.trans (hk3.mono (by omega)); have hT3 := hT.kept hkw3; have hlt3 : w.heap.size < w3.heap.size := (by omega); dsimp only))
  refine wp_name (B := w.heap.size) (w0 := w) (by go_grown) (fun W hcW hfW hz hkW => ?_)
  have hTW := hT.kept hkW
  go_region_held3 (fun w' => (∀ b o, b < W.heap.size → w'.cell? ⟨b, o, none⟩ = W.cell? ⟨b, o, none⟩) ∧ Below W.heap.size W w') (first | assumption | exact since_start | exact since_keep (by assumption) (Nat.le_refl _) hk) (first
    | (go_at_call 12; refine (h12 _ (by first | exact hTW.drew | exact hTW.kept (‹(∀ b o, b < W.heap.size → _) ∧ Below W.heap.size W _›).2)).mono ?_; rintro e w5 ⟨rfl, hk⟩)
    | (go_at_call 13; refine (h13 _).mono ?_; rintro e w5 ⟨rfl, hk⟩))
  have hk5 : Kept w w5 := Below.trans hkW ((‹(∀ b o, b < W.heap.size → _) ∧ Below W.heap.size W w5›).2.mono (by omega))
  have hc5 : ∀ b o, b < W.heap.size → w5.cell? ⟨b, o, none⟩ = W.cell? ⟨b, o, none⟩ := (‹(∀ b o, b < W.heap.size → w5.cell? _ = _) ∧ Below W.heap.size W w5›).1
  have hs5 : W.heap.size ≤ w5.heap.size := (‹(∀ b o, b < W.heap.size → w5.cell? _ = _) ∧ Below W.heap.size W w5›).2.size
  have hT5 := hT.kept hk5
  have hlt5 : w.heap.size < w5.heap.size := (by omega)
  go_wp2_with (go_at_call 13; refine (h13 _).mono ?_; rintro e w6 ⟨rfl, hk6⟩; obtain ⟨hc6, hf6⟩ := bcell hk6; have hs6 := hk6.size; have hkw6 : Kept w w6 := hk5.trans (hk6.mono (by omega)); have hT6 := hT.kept hkw6; have hlt6 : w.heap.size < w6.heap.size := (by omega))
  refine wp_name (B := w.heap.size) (w0 := w) (by go_grown) (fun W6 hcW6 hfW6 hz6 hkW6 => ?_)
  go_region_held3 (fun w' => (∀ b o, b < W6.heap.size → w'.cell? ⟨b, o, none⟩ = W6.cell? ⟨b, o, none⟩) ∧ Below W6.heap.size W6 w') (first | assumption | exact since_start | exact since_keep (by assumption) (Nat.le_refl _) hk) (first
    | (go_at_call 15; (with_reducible refine (hdb _).mono ?_); rintro e w8 ⟨rfl, hk⟩)
    | (go_at_call 15; (with_reducible refine (hdc _).mono ?_); rintro e w8 ⟨rfl, hk⟩))
  have hkw8 : Kept w w8 := Below.trans hkW6 ((‹(∀ b o, b < W6.heap.size → _) ∧ Below W6.heap.size W6 w8›).2.mono (by omega))
  have hc8 : ∀ b o, b < W6.heap.size → w8.cell? ⟨b, o, none⟩ = W6.cell? ⟨b, o, none⟩ := (‹(∀ b o, b < W6.heap.size → w8.cell? _ = _) ∧ Below W6.heap.size W6 w8›).1
  have hs8 : W6.heap.size ≤ w8.heap.size := (‹(∀ b o, b < W6.heap.size → w8.cell? _ = _) ∧ Below W6.heap.size W6 w8›).2.size
  have hT8 := hT.kept hkw8
  have hlt8 : w.heap.size < w8.heap.size := (by omega)
  go_wp2_with (go_at_call 14; refine (lives_any _ hT8).mono ?_; rintro e w7 ⟨rfl, hk7⟩; have hkw7 : Kept w w7 := hkw8.trans (hk7.mono (by omega)))
  go_ret
  exact ⟨rfl, hkw7⟩
set_option maxRecDepth 100000 in
set_option maxHeartbeats 4000000 in
theorem mv_read (b c l size : Int) (w : World) (hT : Tabs w) (hb0 : 0 ≤ b) (hb : b < 4294967296) (hc0 : 0 ≤ c) (hc : c < 65536) (tb tc : ByteArray) (hb9 : tb.size ≤ 100) (hc9 : tc.size ≤ 100) (hdb : ∀ w, Calls Tryd.prog 15 #[.int .u64 b] w fun e w' => e = .returned (.string tb) ∧ Kept w w') (hdc : ∀ w, Calls Tryd.prog 15 #[.int .u64 c] w fun e w' => e = .returned (.string tc) ∧ Kept w w') (hs1 : 1 ≤ size) (hs2 : size ≤ 4096) (hz : 1 ≤ size * c) (hz2 : size * c ≤ 268431360)
    (h9 : ∀ w, Tabs w → Calls Tryd.prog 9 #[.agg #[.int .u8 40, .int .u32 b, .int .u16 c, .int .i64 l], .int .i64 size] w fun e w' => e = .returned (.tuple #[.int .u8 1, .int .i64 (size * c), .int .i64 0]) ∧ Kept w w')
    (h10 : ∀ w, Tabs w → Calls Tryd.prog 10 #[.agg #[.int .u8 40, .int .u32 b, .int .u16 c, .int .i64 l]] w fun e w' => e = .returned (.string (((⟨#[82, 69, 65, 68, 32]⟩ ++ tb) ++ ⟨#[32]⟩) ++ tc)) ∧ Kept w w')
    (h11 : ∀ w, Tabs w → Calls Tryd.prog 11 #[.agg #[.int .u8 40, .int .u32 b, .int .u16 c, .int .i64 l]] w fun e w' => ∃ vb, e = .returned (.tuple #[vb, .int .i64 0]) ∧ Kept w w')
    (h12 : ∀ w, Tabs w → Calls Tryd.prog 12 #[.agg #[.int .u8 40, .int .u32 b, .int .u16 c, .int .i64 l]] w fun e w' => e = .returned (.bool true) ∧ Kept w w')
    (h13 : ∀ w, Calls Tryd.prog 13 #[.agg #[.int .u8 40, .int .u32 b, .int .u16 c, .int .i64 l]] w fun e w' => e = .returned (.bool true) ∧ Kept w w') :
    Calls Tryd.prog 3 #[.agg #[.int .u8 40, .int .u32 b, .int .u16 c, .int .i64 l], .int .i64 size] w fun e w' => e = .returned (.bool true) ∧ Kept w w' := by
  have hsz : (⟨#[82, 69, 65, 68, 32]⟩ : ByteArray).size ≤ 100 := by decide
  have z32 : (⟨#[32]⟩ : ByteArray).size = 1 := rfl
  have a1 : ∀ W : World, (Op.stringOp .add ⟨#[82, 69, 65, 68, 32]⟩ tb).run Tryd.prog W = .ok (.string (⟨#[82, 69, 65, 68, 32]⟩ ++ tb)) W := fun W => run_string_add_sum W _ _ (by omega)
  have a2 : ∀ W : World, (Op.stringOp .add (⟨#[82, 69, 65, 68, 32]⟩ ++ tb) ⟨#[32]⟩).run Tryd.prog W = .ok (.string ((⟨#[82, 69, 65, 68, 32]⟩ ++ tb) ++ ⟨#[32]⟩)) W := fun W => run_string_add_sum W _ _ (by rw [ByteArray.size_append, z32]; omega)
  have a3 : ∀ W : World, (Op.stringOp .add ((⟨#[82, 69, 65, 68, 32]⟩ ++ tb) ++ ⟨#[32]⟩) tc).run Tryd.prog W = .ok (.string (((⟨#[82, 69, 65, 68, 32]⟩ ++ tb) ++ ⟨#[32]⟩) ++ tc)) W := fun W => run_string_add_sum W _ _ (by rw [ByteArray.size_append, ByteArray.size_append, z32]; omega)
  have hwb : IntKind.u64.wrap b = b := by rw [IntKind.wrap_u64]; omega
  have hwc : IntKind.u64.wrap c = c := by rw [IntKind.wrap_u64]; omega
  have hwi : IntKind.i64.wrap c = c := by rw [IntKind.wrap_i64]; omega
  clear hsz z32
  skip
  go_enter Tryd.func3, Tryd.ntmps3
  go_wp2_with (first
  | (go_at_call 9; refine (h9 _ (by exact hT.alloc _)).mono ?_; rintro e w1 ⟨rfl, hk1⟩; obtain ⟨hc1, hf1⟩ := bcell hk1; have hs1 := hk1.size; simp only [World.size_alloc] at hc1 hf1 hs1; have hkw1 : Kept w w1 := ((Below.refl _ w).alloc (Nat.le_refl _) _).trans (hk1.mono (by simp)); have hT1 := hT.kept hkw1; have hlt1 : w.heap.size < w1.heap.size := (by omega); dsimp only)
  | (go_at_call 10; refine (h10 _ hT1).mono ?_; rintro e w2 ⟨rfl, hk2⟩; obtain ⟨hc2, hf2⟩ := bcell hk2; have hs2 := hk2.size; have hkw2 : Kept w w2 := hkw1.trans (hk2.mono (by omega)); have hT2 := hT.kept hkw2; have hlt2 : w.heap.size < w2.heap.size := (by omega); dsimp only)
  | (go_at_call 11; refine (h11 _ hT2).mono ?_; rintro e w3 ⟨vb, rfl, hk3⟩; obtain ⟨hc3, hf3⟩ := bcell hk3; have hs3 := hk3.size; have hkw3 : Kept w w3 := hkw2.trans (hk3.mono (by omega)); have hT3 := hT.kept hkw3; have hlt3 : w.heap.size < w3.heap.size := (by omega); dsimp only))
  refine wp_name (B := w.heap.size) (w0 := w) (by go_grown) (fun W hcW hfW hz hkW => ?_)
  have hTW := hT.kept hkW
  go_region_held3 (fun w' => (∀ b o, b < W.heap.size → w'.cell? ⟨b, o, none⟩ = W.cell? ⟨b, o, none⟩) ∧ Below W.heap.size W w') (first | assumption | exact since_start | exact since_keep (by assumption) (Nat.le_refl _) hk) (first
    | (go_at_call 12; refine (h12 _ (by first | exact hTW.drew | exact hTW.kept (‹(∀ b o, b < W.heap.size → _) ∧ Below W.heap.size W _›).2)).mono ?_; rintro e w5 ⟨rfl, hk⟩)
    | (go_at_call 13; refine (h13 _).mono ?_; rintro e w5 ⟨rfl, hk⟩))
  have hk5 : Kept w w5 := Below.trans hkW ((‹(∀ b o, b < W.heap.size → _) ∧ Below W.heap.size W w5›).2.mono (by omega))
  have hc5 : ∀ b o, b < W.heap.size → w5.cell? ⟨b, o, none⟩ = W.cell? ⟨b, o, none⟩ := (‹(∀ b o, b < W.heap.size → w5.cell? _ = _) ∧ Below W.heap.size W w5›).1
  have hs5 : W.heap.size ≤ w5.heap.size := (‹(∀ b o, b < W.heap.size → w5.cell? _ = _) ∧ Below W.heap.size W w5›).2.size
  have hT5 := hT.kept hk5
  have hlt5 : w.heap.size < w5.heap.size := (by omega)
  go_wp2_with (go_at_call 13; refine (h13 _).mono ?_; rintro e w6 ⟨rfl, hk6⟩; obtain ⟨hc6, hf6⟩ := bcell hk6; have hs6 := hk6.size; have hkw6 : Kept w w6 := hk5.trans (hk6.mono (by omega)); have hT6 := hT.kept hkw6; have hlt6 : w.heap.size < w6.heap.size := (by omega))
  refine wp_name (B := w.heap.size) (w0 := w) (by go_grown) (fun W6 hcW6 hfW6 hz6 hkW6 => ?_)
  go_region_held3 (fun w' => (∀ b o, b < W6.heap.size → w'.cell? ⟨b, o, none⟩ = W6.cell? ⟨b, o, none⟩) ∧ Below W6.heap.size W6 w') (first | assumption | exact since_start | exact since_keep (by assumption) (Nat.le_refl _) hk) (first
    | (go_at_call 15; (with_reducible refine (hdb _).mono ?_); rintro e w8 ⟨rfl, hk⟩)
    | (go_at_call 15; (with_reducible refine (hdc _).mono ?_); rintro e w8 ⟨rfl, hk⟩))
  have hkw8 : Kept w w8 := Below.trans hkW6 ((‹(∀ b o, b < W6.heap.size → _) ∧ Below W6.heap.size W6 w8›).2.mono (by omega))
  have hc8 : ∀ b o, b < W6.heap.size → w8.cell? ⟨b, o, none⟩ = W6.cell? ⟨b, o, none⟩ := (‹(∀ b o, b < W6.heap.size → w8.cell? _ = _) ∧ Below W6.heap.size W6 w8›).1
  have hs8 : W6.heap.size ≤ w8.heap.size := (‹(∀ b o, b < W6.heap.size → w8.cell? _ = _) ∧ Below W6.heap.size W6 w8›).2.size
  have hT8 := hT.kept hkw8
  have hlt8 : w.heap.size < w8.heap.size := (by omega)
  go_wp2_with (go_at_call 14; refine (lives_any _ hT8).mono ?_; rintro e w7 ⟨rfl, hk7⟩; have hkw7 : Kept w w7 := hkw8.trans (hk7.mono (by omega)))
  go_ret
  exact ⟨rfl, hkw7⟩
end Go.Proofs.YtfojemocffelhaaDoor
