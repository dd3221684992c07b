
/- Text: by the form of the operation. -/
import Derived.Test.YtfojemocffelhaaDoorChecked
import Derived.Deep.RegionHeld3
import Derived.Deep.DrawnRows
import Derived.Deep.DeepCutAuto
import Derived.Deep.LoopGhost
import Derived.Outline
import Derived.Handy
import Derived.OwnWalk
import Derived.Test.YtfojemocffelhaaDoorSe
import Derived.Test.YtfojemocffelhaaDoorSd
set_option linter.unusedVariables false
set_option linter.unusedSimpArgs false
set_option linter.unusedSectionVars false
namespace Go.Proofs.YtfojemocffelhaaDoor
open Go.RowKit
attribute [local go_sem ↓] Go.wp_at_zero Go.wp_at_succ

def decB (n : Nat) : ByteArray := ⟨(Lib.decDigits n).toArray⟩
set_option maxRecDepth 100000 in
theorem text_bad (op b c l : Int) (w : World) (hT : Tabs w)
    (hp : ∀ w, Tabs w → Calls Tryd.prog 12 #[.agg #[.int .u8 op, .int .u32 b, .int .u16 c, .int .i64 l]] w fun e w' => e = .returned (.bool false) ∧ Kept w w') :
    Calls Tryd.prog 10 #[.agg #[.int .u8 op, .int .u32 b, .int .u16 c, .int .i64 l]] w fun e w' => e = .returned (.string ⟨#[63]⟩) ∧ Kept w w' := by
  go_enter Tryd.func10, Tryd.ntmps10
  go_wp2_with (go_at_call 12; refine (hp _ (hT.alloc _)).mono ?_; rintro e w1 ⟨rfl, hk1⟩; have hkw : Below w.heap.size w w1 := ((Below.refl _ w).alloc (Nat.le_refl _) _).trans (hk1.mono (by simp)))
  go_ret
  exact ⟨rfl, by go_grown⟩
set_option maxRecDepth 100000 in
set_option maxHeartbeats 2000000 in
theorem text_plain (op b c l wd dr op' : Int) (nm : ByteArray) (ok : Bool) (w : World) (hT : Tabs w) (h0 : True)
    (hp : ∀ w, Tabs w → Calls Tryd.prog 12 #[.agg #[.int .u8 op, .int .u32 b, .int .u16 c, .int .i64 l]] w fun e w' => e = .returned (.bool true) ∧ Kept w w')
    (hf : ∀ w, Tabs w → Calls Tryd.prog 27 #[.int .u8 op] w fun e w' => e = .returned (.tuple #[.agg #[.int .u8 op', .string nm, .int .i64 wd, .bool false, .bool false, .int .u8 dr], .bool ok]) ∧ Kept w w') :
    Calls Tryd.prog 10 #[.agg #[.int .u8 op, .int .u32 b, .int .u16 c, .int .i64 l]] w fun e w' => e = .returned (.string (nm)) ∧ Kept w w' := by
  go_enter Tryd.func10, Tryd.ntmps10
  go_wp2_with (first
  | (go_at_call 12; refine (hp _ (hT.alloc _)).mono ?_; rintro e w1 ⟨rfl, hk1⟩; obtain ⟨hc1, hf1⟩ := bcell hk1; have hs1 := hk1.size; simp only [World.size_alloc] at hc1 hf1 hs1; have hkw : Below w.heap.size w w1 := ((Below.refl _ w).alloc (Nat.le_refl _) _).trans (hk1.mono (by simp)); have hlt1 : w.heap.size < w1.heap.size := (by omega); have hne1 : w.heap.size ≠ w1.heap.size := (by omega))
  | (go_at_call 27; refine (hf _ (hT.kept hkw)).mono ?_; rintro e w2 ⟨rfl, hk2⟩; obtain ⟨hc2, hf2⟩ := bcell hk2; have hs2 := hk2.size; have hkw2 : Below w.heap.size w w2 := hkw.trans (hk2.mono (by omega)); have hlt2 : w.heap.size < w2.heap.size := (by omega); have hne2 : w.heap.size ≠ w2.heap.size := (by omega))
  | (go_at_call 28; refine (hi _ ((hT.kept hkw2).alloc _)).mono ?_; rintro e w3 ⟨rfl, hk3⟩; have hkw3 : Below w.heap.size w w3 := (hkw2.alloc (by omega) _).trans (hk3.mono (by simp <;> omega)); obtain ⟨hc3, hf3⟩ := bcell hk3; have hs3 := hk3.size; simp only [World.size_alloc] at hc3 hf3 hs3; have hlt3 : w2.heap.size < w3.heap.size := (by omega); have hlt4 : w.heap.size < w3.heap.size := (by omega)))
  go_ret
  exact ⟨rfl, by go_grown⟩
set_option maxRecDepth 100000 in
set_option maxHeartbeats 2000000 in
theorem text_len (op b c l wd dr op' : Int) (nm : ByteArray) (ok : Bool) (w : World) (hT : Tabs w) (tl : ByteArray) (hn9 : nm.size ≤ 100) (ht9 : tl.size ≤ 100) (hi : ∀ w, Tabs w → Calls Tryd.prog 28 #[.int .i64 l] w fun e w' => e = .returned (.string tl) ∧ Kept w w')
    (hp : ∀ w, Tabs w → Calls Tryd.prog 12 #[.agg #[.int .u8 op, .int .u32 b, .int .u16 c, .int .i64 l]] w fun e w' => e = .returned (.bool true) ∧ Kept w w')
    (hf : ∀ w, Tabs w → Calls Tryd.prog 27 #[.int .u8 op] w fun e w' => e = .returned (.tuple #[.agg #[.int .u8 op', .string nm, .int .i64 wd, .bool true, .bool false, .int .u8 dr], .bool ok]) ∧ Kept w w') :
    Calls Tryd.prog 10 #[.agg #[.int .u8 op, .int .u32 b, .int .u16 c, .int .i64 l]] w fun e w' => e = .returned (.string (nm ++ (⟨#[32]⟩ ++ tl))) ∧ Kept w w' := by
  go_enter Tryd.func10, Tryd.ntmps10
  go_wp2_with (first
  | (go_at_call 12; refine (hp _ (hT.alloc _)).mono ?_; rintro e w1 ⟨rfl, hk1⟩; obtain ⟨hc1, hf1⟩ := bcell hk1; have hs1 := hk1.size; simp only [World.size_alloc] at hc1 hf1 hs1; have hkw : Below w.heap.size w w1 := ((Below.refl _ w).alloc (Nat.le_refl _) _).trans (hk1.mono (by simp)); have hlt1 : w.heap.size < w1.heap.size := (by omega); have hne1 : w.heap.size ≠ w1.heap.size := (by omega))
  | (go_at_call 27; refine (hf _ (hT.kept hkw)).mono ?_; rintro e w2 ⟨rfl, hk2⟩; obtain ⟨hc2, hf2⟩ := bcell hk2; have hs2 := hk2.size; have hkw2 : Below w.heap.size w w2 := hkw.trans (hk2.mono (by omega)); have hlt2 : w.heap.size < w2.heap.size := (by omega); have hne2 : w.heap.size ≠ w2.heap.size := (by omega))
  | (go_at_call 28; refine (hi _ ((hT.kept hkw2).alloc _)).mono ?_; rintro e w3 ⟨rfl, hk3⟩; have hkw3 : Below w.heap.size w w3 := (hkw2.alloc (by omega) _).trans (hk3.mono (by simp <;> omega)); obtain ⟨hc3, hf3⟩ := bcell hk3; have hs3 := hk3.size; simp only [World.size_alloc] at hc3 hf3 hs3; have hlt3 : w2.heap.size < w3.heap.size := (by omega); have hlt4 : w.heap.size < w3.heap.size := (by omega)))
  go_ret
  exact ⟨rfl, by go_grown⟩
set_option maxRecDepth 100000 in
set_option maxHeartbeats 2000000 in
theorem text_blocks (op b c l wd dr op' : Int) (nm : ByteArray) (ok : Bool) (w : World) (hT : Tabs w) (tb tc : ByteArray) (hn9 : nm.size ≤ 100) (hb9 : tb.size ≤ 100) (hc9 : tc.size ≤ 100) (hb0 : 0 ≤ b) (hb : b < 4294967296) (hc0 : 0 ≤ c) (hc : c < 65536) (hu : ∀ w, Tabs w → Calls Tryd.prog 29 #[.int .u64 b, .int .i64 10] w fun e w' => e = .returned (.string tb) ∧ Kept w w') (hi : ∀ w, Tabs w → Calls Tryd.prog 28 #[.int .i64 c] w fun e w' => e = .returned (.string tc) ∧ Kept w w')
    (hp : ∀ w, Tabs w → Calls Tryd.prog 12 #[.agg #[.int .u8 op, .int .u32 b, .int .u16 c, .int .i64 l]] w fun e w' => e = .returned (.bool true) ∧ Kept w w')
    (hf : ∀ w, Tabs w → Calls Tryd.prog 27 #[.int .u8 op] w fun e w' => e = .returned (.tuple #[.agg #[.int .u8 op', .string nm, .int .i64 wd, .bool false, .bool true, .int .u8 dr], .bool ok]) ∧ Kept w w') :
    Calls Tryd.prog 10 #[.agg #[.int .u8 op, .int .u32 b, .int .u16 c, .int .i64 l]] w fun e w' => e = .returned (.string (nm ++ (((⟨#[32]⟩ ++ tb) ++ ⟨#[32]⟩) ++ tc))) ∧ Kept w w' := by
  have z32 : (⟨#[32]⟩ : ByteArray).size = 1 := rfl
  have a1 : ∀ W : World, (Op.stringOp .add ⟨#[32]⟩ tb).run Tryd.prog W = .ok (.string (⟨#[32]⟩ ++ tb)) W := fun W => run_string_add_sum W _ _ (by rw [z32]; omega)
  have a2 : ∀ W : World, (Op.stringOp .add (⟨#[32]⟩ ++ tb) ⟨#[32]⟩).run Tryd.prog W = .ok (.string ((⟨#[32]⟩ ++ tb) ++ ⟨#[32]⟩)) W := fun W => run_string_add_sum W _ _ (by rw [ByteArray.size_append, z32]; omega)
  have a3 : ∀ W : World, (Op.stringOp .add ((⟨#[32]⟩ ++ tb) ++ ⟨#[32]⟩) tc).run Tryd.prog W = .ok (.string (((⟨#[32]⟩ ++ tb) ++ ⟨#[32]⟩) ++ tc)) W := fun W => run_string_add_sum W _ _ (by rw [ByteArray.size_append, ByteArray.size_append, z32]; omega)
  have a4 : ∀ W : World, (Op.stringOp .add nm (((⟨#[32]⟩ ++ tb) ++ ⟨#[32]⟩) ++ tc)).run Tryd.prog W = .ok (.string (nm ++ (((⟨#[32]⟩ ++ tb) ++ ⟨#[32]⟩) ++ tc))) W := fun W => run_string_add_sum W _ _ (by rw [ByteArray.size_append, ByteArray.size_append, ByteArray.size_append, z32]; omega)
  go_enter Tryd.func10, Tryd.ntmps10
  go_wp2_with (first
  | (go_at_call 12; refine (hp _ (hT.alloc _)).mono ?_; rintro e w1 ⟨rfl, hk1⟩; obtain ⟨hc1, hf1⟩ := bcell hk1; have hs1 := hk1.size; simp only [World.size_alloc] at hc1 hf1 hs1; have hkw : Below w.heap.size w w1 := ((Below.refl _ w).alloc (Nat.le_refl _) _).trans (hk1.mono (by simp)); have hlt1 : w.heap.size < w1.heap.size := (by omega); have hne1 : w.heap.size ≠ w1.heap.size := (by omega))
  | (go_at_call 27; refine (hf _ (hT.kept hkw)).mono ?_; rintro e w2 ⟨rfl, hk2⟩; obtain ⟨hc2, hf2⟩ := bcell hk2; have hs2 := hk2.size; have hkw2 : Below w.heap.size w w2 := hkw.trans (hk2.mono (by omega)); have hlt2 : w.heap.size < w2.heap.size := (by omega); have hne2 : w.heap.size ≠ w2.heap.size := (by omega))
  | (go_at_call 28; refine (hi _ ((hT.kept hkw2).alloc _)).mono ?_; rintro e w3 ⟨rfl, hk3⟩; have hkw3 : Below w.heap.size w w3 := (hkw2.alloc (by omega) _).trans (hk3.mono (by simp <;> omega)); obtain ⟨hc3, hf3⟩ := bcell hk3; have hs3 := hk3.size; simp only [World.size_alloc] at hc3 hf3 hs3; have hlt3 : w2.heap.size < w3.heap.size := (by omega); have hlt4 : w.heap.size < w3.heap.size := (by omega)))
  refine wp_name (B := w.heap.size) (w0 := w) (by go_grown) (fun W hcW hfW hz hkW => ?_)
  simp only [World.size_alloc] at hz
  have hTW := hT.kept hkW
  have hwb : IntKind.u64.wrap b = b := by rw [IntKind.wrap_u64]; omega
  have hwc : IntKind.i64.wrap c = c := by rw [IntKind.wrap_i64]; omega
  go_region_held3 (fun w' => (∀ b o, b < W.heap.size → w'.cell? ⟨b, o, none⟩ = W.cell? ⟨b, o, none⟩) ∧ Below W.heap.size W w') (first | assumption | exact since_start | exact since_keep (by assumption) (Nat.le_refl _) hk) (first
    | (go_at_call 29; refine (hu _ (by first | exact hTW.drew | exact hTW.kept (‹(∀ b o, b < W.heap.size → _) ∧ Below W.heap.size W _›).2 | (trace_state; fail))).mono ?_; rintro e w5 ⟨rfl, hk⟩)
    | (go_at_call 28; refine (hi _ (by first | exact hTW.drew | exact hTW.kept (‹(∀ b o, b < W.heap.size → _) ∧ Below W.heap.size W _›).2 | (trace_state; fail))).mono ?_; rintro e w5 ⟨rfl, hk⟩))
  have hkE : Kept w w5 := Below.trans hkW ((‹(∀ b o, b < W.heap.size → _) ∧ Below W.heap.size W w5›).2.mono (by omega))
  go_wp2
  go_ret
  exact ⟨rfl, hkE⟩
def nameZ (op : Int) : ByteArray :=
  if op = 0 then ⟨#[82, 69, 65, 68, 89]⟩ else if op = 3 then ⟨#[65, 83, 75]⟩ else if op = 18 then ⟨#[73, 68, 69, 78, 84, 73, 70, 89]⟩ else if op = 37 then ⟨#[83, 73, 90, 69]⟩ else if op = 40 then ⟨#[82, 69, 65, 68]⟩ else if op = 42 then ⟨#[87, 82, 73, 84, 69]⟩ else if op = 53 then ⟨#[83, 89, 78, 67, 72, 82, 79, 78, 73, 90, 69]⟩ else ⟨#[]⟩
def textZ (op b c l : Int) : ByteArray :=
  if properZ op b c l = false then ⟨#[63]⟩
  else if op = 3 ∨ op = 18 then nameZ op ++ (⟨#[32]⟩ ++ decB l.toNat)
  else if op = 40 ∨ op = 42 ∨ op = 53 then nameZ op ++ (((⟨#[32]⟩ ++ decB b.toNat) ++ ⟨#[32]⟩) ++ decB c.toNat)
  else nameZ op
theorem decB_size {n : Nat} (h : n < 18446744073709551616) : (decB n).size ≤ 100 := by
  show (Lib.decDigits n).toArray.size ≤ 100
  rw [List.size_toArray, Lib.decDigits_length]
  rcases Nat.eq_zero_or_pos n with rfl | h1
  · simp [Lib.nDigits]
  · have := Lib.numDigits_eq n h1 h
    split at this <;> omega
theorem itoa_nat (n : Int) (w : World) (h0 : 0 ≤ n) (h1 : n ≤ 9223372036854775807) (hT : Tabs w) : Calls Tryd.prog 28 #[.int .i64 n] w fun e w' => e = .returned (.string (decB n.toNat)) ∧ Kept w w' := by
  have h := itoa_any n w (by omega) h1 hT
  obtain ⟨m, rfl⟩ : ∃ m : Nat, n = m := ⟨n.toNat, by omega⟩
  rw [Lib.itoa_nonneg] at h
  exact h
theorem fuint_nat (n : Int) (w : World) (h0 : 0 ≤ n) (h1 : n < 18446744073709551616) (hT : Tabs w) : Calls Tryd.prog 29 #[.int .u64 n, .int .i64 10] w fun e w' => e = .returned (.string (decB n.toNat)) ∧ Kept w w' := by
  obtain ⟨m, rfl⟩ : ∃ m : Nat, n = m := ⟨n.toNat, by omega⟩
  exact formatUint m w (by omega) hT
theorem text_any (op b c l : Int) (w : World) (hT : Tabs w) (hb0 : 0 ≤ b) (hb : b < 4294967296) (hc0 : 0 ≤ c) (hc : c < 65536) :
    Calls Tryd.prog 10 #[.agg #[.int .u8 op, .int .u32 b, .int .u16 c, .int .i64 l]] w fun e w' => e = .returned (.string (textZ op b c l)) ∧ Kept w w' := by
  have hp : ∀ w, Tabs w → _ := fun w hT => proper_any op b c l w hT hb0 hb hc0 hc
  cases hP : properZ op b c l with
  | false =>
    rw [hP] at hp
    rw [show textZ op b c l = ⟨#[63]⟩ by unfold textZ; rw [if_pos hP]]
    exact text_bad op b c l w hT hp
  | true =>
    rw [hP] at hp
    have hN : ∀ op : Int, properZ op b c l = true → ¬ properZ op b c l = false := fun _ h => by rw [h]; decide
    rcases op_cases op with rfl | rfl | rfl | rfl | rfl | rfl | rfl | h
    · rw [show textZ 0 b c l = ⟨#[82, 69, 65, 68, 89]⟩ by unfold textZ; rw [if_neg (hN 0 hP)]; rfl]
      exact text_plain 0 b c l _ _ _ _ _ w hT trivial hp find_0
    · have hl : 0 ≤ l ∧ l ≤ 255 := by simp [properZ] at hP; omega
      rw [show textZ 3 b c l = ⟨#[65, 83, 75]⟩ ++ (⟨#[32]⟩ ++ decB l.toNat) by unfold textZ; rw [if_neg (hN 3 hP)]; rfl]
      exact text_len 3 b c l _ _ _ _ _ w hT _ (by decide) (decB_size (by omega)) (fun w hT => itoa_nat l w hl.1 (by omega) hT) hp find_3
    · have hl : 0 ≤ l ∧ l ≤ 255 := by simp [properZ] at hP; omega
      rw [show textZ 18 b c l = ⟨#[73, 68, 69, 78, 84, 73, 70, 89]⟩ ++ (⟨#[32]⟩ ++ decB l.toNat) by unfold textZ; rw [if_neg (hN 18 hP)]; rfl]
      exact text_len 18 b c l _ _ _ _ _ w hT _ (by decide) (decB_size (by omega)) (fun w hT => itoa_nat l w hl.1 (by omega) hT) hp find_18
    · rw [show textZ 37 b c l = ⟨#[83, 73, 90, 69]⟩ by unfold textZ; rw [if_neg (hN 37 hP)]; rfl]
      exact text_plain 37 b c l _ _ _ _ _ w hT trivial hp find_37
    · rw [show textZ 40 b c l = ⟨#[82, 69, 65, 68]⟩ ++ (((⟨#[32]⟩ ++ decB b.toNat) ++ ⟨#[32]⟩) ++ decB c.toNat) by unfold textZ; rw [if_neg (hN 40 hP)]; rfl]
      exact text_blocks 40 b c l _ _ _ _ _ w hT _ _ (by decide) (decB_size (by omega)) (decB_size (by omega)) hb0 hb hc0 hc (fun w hT => fuint_nat b w hb0 (by omega) hT) (fun w hT => itoa_nat c w hc0 (by omega) hT) hp find_40
    · rw [show textZ 42 b c l = ⟨#[87, 82, 73, 84, 69]⟩ ++ (((⟨#[32]⟩ ++ decB b.toNat) ++ ⟨#[32]⟩) ++ decB c.toNat) by unfold textZ; rw [if_neg (hN 42 hP)]; rfl]
      exact text_blocks 42 b c l _ _ _ _ _ w hT _ _ (by decide) (decB_size (by omega)) (decB_size (by omega)) hb0 hb hc0 hc (fun w hT => fuint_nat b w hb0 (by omega) hT) (fun w hT => itoa_nat c w hc0 (by omega) hT) hp find_42
    · rw [show textZ 53 b c l = ⟨#[83, 89, 78, 67, 72, 82, 79, 78, 73, 90, 69]⟩ ++ (((⟨#[32]⟩ ++ decB b.toNat) ++ ⟨#[32]⟩) ++ decB c.toNat) by unfold textZ; rw [if_neg (hN 53 hP)]; rfl]
      exact text_blocks 53 b c l _ _ _ _ _ w hT _ _ (by decide) (decB_size (by omega)) (decB_size (by omega)) hb0 hb hc0 hc (fun w hT => fuint_nat b w hb0 (by omega) hT) (fun w hT => itoa_nat c w hc0 (by omega) hT) hp find_53
    · have h' := properZ_none op h
      simp [properZ, h'] at hP
end Go.Proofs.YtfojemocffelhaaDoor
