/- The effects. -/
import Derived.Test.YtegdigfcgeoboaaChecked
import Derived.Deep.RegionHeld3
import Derived.Deep.DrawnRows
import Derived.Deep.DeepCutAuto
import Derived.Deep.LoopGhost
import Derived.Outline
import Derived.Handy
import Derived.OwnWalk
import Derived.BigQuiet
import Derived.Test.YtegdigfcgeoboaaFeK
import Derived.Test.YtegdigfcgeoboaaN6
import Derived.Test.YtegdigfcgeoboaaN7
import Derived.Test.YtegdigfcgeoboaaRtK
import Derived.Test.YtegdigfcgeoboaaRuK
import Derived.Test.YtegdigfcgeoboaaN4
import Derived.Test.YtegdigfcgeoboaaN5
import Derived.Test.YtegdigfcgeoboaaRkK
import Derived.Test.YtegdigfcgeoboaaN2
set_option linter.unusedVariables false
set_option linter.unusedSimpArgs false
set_option linter.unusedSectionVars false
/- The reader's field: whatever it answers. -/
namespace Go.Proofs.Ytegdigfcgeoboaa
open Go.RowKit Go.Maps
attribute [local go_sem ↓] Go.wp_at_zero Go.wp_at_succ

set_option maxRecDepth 1000000 in
set_option maxHeartbeats 8000000 in
theorem field_go {w : World} {base R m : Nat} {vs vu vf vc : Value} {s : RS} (h : Rd w base R m vs vu vf vc s) (hb : base ≤ w.heap.size) (hs : s.Fine) (k : Int) (hk : 1 ≤ k ∧ k ≤ 3) (x : It) (hx0 : 0 ≤ x.data) (hx1 : x.data < 4294967296) (c : ¬ s.opn < 0) (c1 : 1 ≤ s.g.size ∧ s.g.size ≤ 32) (c2 : 1 ≤ s.g.count ∧ s.g.count ≤ 256) (c3 : ¬ 4096 < bitsS s.fields k s.g.report + s.g.size * s.g.count) (c4 : s.fields.length < 256) :
    Calls Try.prog 60 #[.pointer (some ⟨R, 0, none⟩), .int .u8 k, itV x] w (Did base R m w (fieldS s k x)) := by
  obtain ⟨e1, e2⟩ := c1
  obtain ⟨e3, e4⟩ := c2
  have d1 : decide (s.g.size < 1) = false := decide_eq_false (by omega)
  have d2 : decide (32 < s.g.size) = false := decide_eq_false (by omega)
  have d3 : decide (s.g.count < 1) = false := decide_eq_false (by omega)
  have d4 : decide (256 < s.g.count) = false := decide_eq_false (by omega)
  have C3 := hide c3
  have C4 := hide c4
  clear c3 c4
  have Hh := hide h
  have Hb := hide hb
  have c' : 0 ≤ s.opn := by omega
  have hRl := heap_lt h.box
  have hml : m < w.heap.size := Nat.lt_of_lt_of_le h.low.2.1 hb
  have hrp := hs.report
  have hwr : IntKind.u8.wrap s.g.report = s.g.report := by rw [IntKind.wrap_u8]; omega
  have c5 : w.cell? ⟨R, 5, none⟩ = some (.int .u32 s.g.report) := cell_heap h.box (o := 5) rfl
  have c10 : w.cell? ⟨R, 10, none⟩ = some (.int .i64 s.opn) := cell_heap h.box (o := 10) rfl
  unfold itV
  go_enter Try.func60, Try.ntmps60
  go_upto_region 4 with (fail)
  refine wp_at (fun W => Rd W base R m vs vu vf vc s ∧ W.heap[w.heap.size + 1]? = some (.cells #[.int .u8 k, .int .u8 s.g.report] 90 (0, 0)) ∧ W.heap[w.heap.size]? = some (.cells #[.int .u8 x.ty, .int .u8 x.tg, .int .i64 x.size, .int .u32 x.data] 29 (0, 0)) ∧ Kept w W ∧ W.heap.size = w.heap.size + 2) ⟨h.kept (by go_grown), heap_at _ (by simp), heap_past (heap_at _ rfl), by go_grown, by simp⟩ (fun W hW => ?_)
  obtain ⟨hr, hb1, hb2, hkW, hz⟩ := hW
  clear c5 c10
  obtain ⟨B, hB⟩ : ∃ B, bitsS s.fields k s.g.report = B := ⟨_, rfl⟩
  obtain ⟨P, hP⟩ : ∃ P, s.g.size * s.g.count = P := ⟨_, rfl⟩
  have hlk : ∀ n, (Instr.lookup 81 (.map (some m)) (.agg #[.int .u8 k, .int .u8 s.g.report]) false).run Try.prog (W.drewN n) = .ok (.int .i64 B) (W.drewN n) := fun n => by rw [← hB]; exact hr.look (w' := W.drewN n) rfl hk (by unfold u8k; omega)
  have hb0 := hs.bits k s.g.report
  rw [hB] at hb0
  have hP1 : 1 ≤ P ∧ P ≤ 8192 := by
    rw [← hP]
    have h1 : s.g.size * s.g.count ≤ 32 * s.g.count := Int.mul_le_mul_of_nonneg_right (by omega) (by omega)
    have h2 : 1 * s.g.count ≤ s.g.size * s.g.count := Int.mul_le_mul_of_nonneg_right (by omega) (by omega)
    omega
  obtain ⟨hP1, hP2⟩ := hP1
  obtain ⟨hB1, hB2⟩ := hb0
  have hw1 : IntKind.u32.wrap (s.g.size * s.g.count) = P := by rw [hP, IntKind.wrap_u32]; omega
  have hw2 : IntKind.i64.wrap P = P := by rw [IntKind.wrap_i64]; omega
  have hw3 : IntKind.i64.wrap (B + P) = B + P := by rw [IntKind.wrap_i64]; omega
  have c3 : W.cell? ⟨R, 3, none⟩ = some (.int .u32 s.g.size) := cell_heap hr.box (o := 3) rfl
  have c4 : W.cell? ⟨R, 4, none⟩ = some (.int .u32 s.g.count) := cell_heap hr.box (o := 4) rfl
  have c5 : W.cell? ⟨R, 5, none⟩ = some (.int .u32 s.g.report) := cell_heap hr.box (o := 5) rfl
  have c11 : W.cell? ⟨R, 11, none⟩ = some (.map (some m)) := cell_heap hr.box (o := 11) rfl
  have c12 : W.cell? ⟨R, 12, none⟩ = some vf := cell_heap hr.box (o := 12) rfl
  have k0 : W.cell? ⟨w.heap.size + 1, 0, none⟩ = some (.int .u8 k) := cell_heap hb1 (o := 0) rfl
  have k1 : W.cell? ⟨w.heap.size + 1, 1, none⟩ = some (.int .u8 s.g.report) := cell_heap hb1 (o := 1) rfl
  have hHlk := hide hB
  have hHP := hide hP
  clear hB hP
  obtain ⟨F, cf, rfl, hF1, hF2⟩ := hr.fs.isSlice
  have d5 : B + P ≤ 4096 := by have := C3.out; rw [hHlk.out, hHP.out] at this; omega
  have d6 : decide (4096 < B + P) = false := decide_eq_false (by omega)
  have d7 : decide (256 ≤ (s.fields.length : Int)) = false := decide_eq_false (by have := C4.out; omega)
  have Hkw := hide hkW
  have Hr := hide hr
  have Hs := hide hs
  have Hk := hide hk
  have E1 := hide e1
  have E2 := hide e2
  have E3 := hide e3
  have E4 := hide e4
  have D5 := hide d5
  have Hb1 := hide hb1
  have Hb2 := hide hb2
  clear hkW hz hb1 hb2 hr hrp hs hk hml h hb e1 e2 e3 e4 d5 hP1 hP2 hB1 hB2
  go_quiet (fail)
  clear hlk hw1 hw2 hw3 c3 c4 c5 c11 c12 k0 k1
  go_upto_region 6 with (fail)
  have hkn : Kept W (W.drewN nq) := below_drewN (Below.refl _ _) _
  refine field_mid (Hr.out.kept hkn) Hb.out (Hkw.out.trans' hkn) Hh.out.old Hs.out k Hk.out x hx0 hx1 c' E1.out E2.out E3.out E4.out (by rw [hHlk.out, hHP.out]; exact D5.out) C4.out (heap_kept hkn Hb1.out) (heap_kept hkn Hb2.out) _ ?_
  assumption
theorem field_any {w : World} {base R m : Nat} {vs vu vf vc : Value} {s : RS} (h : Rd w base R m vs vu vf vc s) (hb : base ≤ w.heap.size) (hs : s.Fine) (k : Int) (hk : 1 ≤ k ∧ k ≤ 3) (x : It) (hx0 : 0 ≤ x.data) (hx1 : x.data < 4294967296) :
    Calls Try.prog 60 #[.pointer (some ⟨R, 0, none⟩), .int .u8 k, itV x] w (Did base R m w (fieldS s k x)) := by
  by_cases c : s.opn < 0
  · exact field_closed h hb hs k x c
  by_cases c1 : s.g.size < 1
  · exact field_small h hb hs k x c c1
  by_cases c2 : 32 < s.g.size
  · exact field_wide h hb hs k x c c2
  by_cases c3 : s.g.count < 1
  · exact field_none h hb hs k x c ⟨by omega, by omega⟩ c3
  by_cases c4 : 256 < s.g.count
  · exact field_many h hb hs k x c ⟨by omega, by omega⟩ c4
  by_cases c5 : 4096 < bitsS s.fields k s.g.report + s.g.size * s.g.count
  · exact field_bits h hb hs k hk x c ⟨by omega, by omega⟩ ⟨by omega, by omega⟩ c5
  by_cases c6 : 256 ≤ s.fields.length
  · exact field_full h hb hs k hk x c ⟨by omega, by omega⟩ ⟨by omega, by omega⟩ c5 c6
  exact field_go h hb hs k hk x hx0 hx1 c ⟨by omega, by omega⟩ ⟨by omega, by omega⟩ c5 (by omega)
end Go.Proofs.Ytegdigfcgeoboaa
/- The reader's input, output, feature; each effect by its type and tag. Printed by gen_e.py. -/
namespace Go.Proofs.Ytegdigfcgeoboaa
open Go.RowKit Go.Maps
attribute [local go_sem ↓] Go.wp_at_zero Go.wp_at_succ

set_option maxRecDepth 100000 in
theorem input_any {w : World} {base R m : Nat} {vs vu vf vc : Value} {s : RS} (h : Rd w base R m vs vu vf vc s) (hb : base ≤ w.heap.size) (hs : s.Fine) (x : It) (hw : x.wide = true) (hok : x.ok) (h1 : x.ty = 0) (h2 : x.tg = 8) :
    Calls Try.prog 39 #[.pointer (some ⟨R, 0, none⟩), itV x] w (Did base R m w (effS s x)) := by
  obtain ⟨d0, d1, _⟩ := data_lt hw hok
  have hE : effS s x = fieldS s 1 x := by simp [effS, h1, h2]
  rw [hE]
  clear hE
  have hf : ∀ w' : World, Kept w w' → Calls Try.prog 60 #[.pointer (some ⟨R, 0, none⟩), .int .u8 1, itV x] w' (Did base R m w' (fieldS s 1 x)) := fun w' hk => field_any (h.kept hk) (Nat.le_trans hb hk.size) hs 1 (by decide) x d0 d1
  generalize fieldS s 1 x = r at *
  unfold itV at hf ⊢
  rw [h1, h2] at hf
  have Hh := hide h
  clear h hs hw hok
  go_enter Try.func39, Try.ntmps39
  go_wp2_with (go_at_call 60; refine (hf _ (by go_grown)).mono ?_; rintro e w2 ⟨rfl, hfr, hd⟩)
  go_ret
  exact ⟨rfl, (Fr.kept (by go_grown) hb).trans hfr, hd⟩
set_option maxRecDepth 100000 in
theorem output_any {w : World} {base R m : Nat} {vs vu vf vc : Value} {s : RS} (h : Rd w base R m vs vu vf vc s) (hb : base ≤ w.heap.size) (hs : s.Fine) (x : It) (hw : x.wide = true) (hok : x.ok) (h1 : x.ty = 0) (h2 : x.tg = 9) :
    Calls Try.prog 40 #[.pointer (some ⟨R, 0, none⟩), itV x] w (Did base R m w (effS s x)) := by
  obtain ⟨d0, d1, _⟩ := data_lt hw hok
  have hE : effS s x = fieldS s 2 x := by simp [effS, h1, h2]
  rw [hE]
  clear hE
  have hf : ∀ w' : World, Kept w w' → Calls Try.prog 60 #[.pointer (some ⟨R, 0, none⟩), .int .u8 2, itV x] w' (Did base R m w' (fieldS s 2 x)) := fun w' hk => field_any (h.kept hk) (Nat.le_trans hb hk.size) hs 2 (by decide) x d0 d1
  generalize fieldS s 2 x = r at *
  unfold itV at hf ⊢
  rw [h1, h2] at hf
  have Hh := hide h
  clear h hs hw hok
  go_enter Try.func40, Try.ntmps40
  go_wp2_with (go_at_call 60; refine (hf _ (by go_grown)).mono ?_; rintro e w2 ⟨rfl, hfr, hd⟩)
  go_ret
  exact ⟨rfl, (Fr.kept (by go_grown) hb).trans hfr, hd⟩
set_option maxRecDepth 100000 in
theorem feature_any {w : World} {base R m : Nat} {vs vu vf vc : Value} {s : RS} (h : Rd w base R m vs vu vf vc s) (hb : base ≤ w.heap.size) (hs : s.Fine) (x : It) (hw : x.wide = true) (hok : x.ok) (h1 : x.ty = 0) (h2 : x.tg = 11) :
    Calls Try.prog 42 #[.pointer (some ⟨R, 0, none⟩), itV x] w (Did base R m w (effS s x)) := by
  obtain ⟨d0, d1, _⟩ := data_lt hw hok
  have hE : effS s x = fieldS s 3 x := by simp [effS, h1, h2]
  rw [hE]
  clear hE
  have hf : ∀ w' : World, Kept w w' → Calls Try.prog 60 #[.pointer (some ⟨R, 0, none⟩), .int .u8 3, itV x] w' (Did base R m w' (fieldS s 3 x)) := fun w' hk => field_any (h.kept hk) (Nat.le_trans hb hk.size) hs 3 (by decide) x d0 d1
  generalize fieldS s 3 x = r at *
  unfold itV at hf ⊢
  rw [h1, h2] at hf
  have Hh := hide h
  clear h hs hw hok
  go_enter Try.func42, Try.ntmps42
  go_wp2_with (go_at_call 60; refine (hf _ (by go_grown)).mono ?_; rintro e w2 ⟨rfl, hfr, hd⟩)
  go_ret
  exact ⟨rfl, (Fr.kept (by go_grown) hb).trans hfr, hd⟩
/-- which function belongs to a type and a tag -/
def fnOf (t g : Int) : Option FuncId :=
  if t = 0 ∧ g = 8 then some 39 else
  if t = 0 ∧ g = 9 then some 40 else
  if t = 0 ∧ g = 10 then some 41 else
  if t = 0 ∧ g = 11 then some 42 else
  if t = 0 ∧ g = 12 then some 43 else
  if t = 1 ∧ g = 0 then some 44 else
  if t = 1 ∧ g = 1 then some 45 else
  if t = 1 ∧ g = 2 then some 46 else
  if t = 1 ∧ g = 3 then some 47 else
  if t = 1 ∧ g = 4 then some 47 else
  if t = 1 ∧ g = 5 then some 47 else
  if t = 1 ∧ g = 6 then some 47 else
  if t = 1 ∧ g = 7 then some 48 else
  if t = 1 ∧ g = 8 then some 49 else
  if t = 1 ∧ g = 9 then some 50 else
  if t = 1 ∧ g = 10 then some 51 else
  if t = 1 ∧ g = 11 then some 52 else
  if t = 2 ∧ g = 0 then some 53 else
  if t = 2 ∧ g = 1 then some 54 else
  if t = 2 ∧ g = 2 then some 55 else
  none
theorem fnOf_0_8 : fnOf 0 8 = some 39 := rfl
theorem fnOf_0_9 : fnOf 0 9 = some 40 := rfl
theorem fnOf_0_10 : fnOf 0 10 = some 41 := rfl
theorem fnOf_0_11 : fnOf 0 11 = some 42 := rfl
theorem fnOf_0_12 : fnOf 0 12 = some 43 := rfl
theorem fnOf_1_0 : fnOf 1 0 = some 44 := rfl
theorem fnOf_1_1 : fnOf 1 1 = some 45 := rfl
theorem fnOf_1_2 : fnOf 1 2 = some 46 := rfl
theorem fnOf_1_3 : fnOf 1 3 = some 47 := rfl
theorem fnOf_1_4 : fnOf 1 4 = some 47 := rfl
theorem fnOf_1_5 : fnOf 1 5 = some 47 := rfl
theorem fnOf_1_6 : fnOf 1 6 = some 47 := rfl
theorem fnOf_1_7 : fnOf 1 7 = some 48 := rfl
theorem fnOf_1_8 : fnOf 1 8 = some 49 := rfl
theorem fnOf_1_9 : fnOf 1 9 = some 50 := rfl
theorem fnOf_1_10 : fnOf 1 10 = some 51 := rfl
theorem fnOf_1_11 : fnOf 1 11 = some 52 := rfl
theorem fnOf_2_0 : fnOf 2 0 = some 53 := rfl
theorem fnOf_2_1 : fnOf 2 1 = some 54 := rfl
theorem fnOf_2_2 : fnOf 2 2 = some 55 := rfl
theorem fnOf_cases {t g : Int} {f : FuncId} (h : fnOf t g = some f) : (t = 0 ∧ g = 8 ∧ f = 39) ∨ (t = 0 ∧ g = 9 ∧ f = 40) ∨ (t = 0 ∧ g = 10 ∧ f = 41) ∨ (t = 0 ∧ g = 11 ∧ f = 42) ∨ (t = 0 ∧ g = 12 ∧ f = 43) ∨ (t = 1 ∧ g = 0 ∧ f = 44) ∨ (t = 1 ∧ g = 1 ∧ f = 45) ∨ (t = 1 ∧ g = 2 ∧ f = 46) ∨ (t = 1 ∧ g = 3 ∧ f = 47) ∨ (t = 1 ∧ g = 4 ∧ f = 47) ∨ (t = 1 ∧ g = 5 ∧ f = 47) ∨ (t = 1 ∧ g = 6 ∧ f = 47) ∨ (t = 1 ∧ g = 7 ∧ f = 48) ∨ (t = 1 ∧ g = 8 ∧ f = 49) ∨ (t = 1 ∧ g = 9 ∧ f = 50) ∨ (t = 1 ∧ g = 10 ∧ f = 51) ∨ (t = 1 ∧ g = 11 ∧ f = 52) ∨ (t = 2 ∧ g = 0 ∧ f = 53) ∨ (t = 2 ∧ g = 1 ∧ f = 54) ∨ (t = 2 ∧ g = 2 ∧ f = 55) := by
  unfold fnOf at h
  by_cases c0 : t = 0 ∧ g = 8
  · rw [if_pos c0] at h; obtain rfl := Option.some.inj h; obtain ⟨rfl, rfl⟩ := c0; simp
  rw [if_neg c0] at h
  by_cases c1 : t = 0 ∧ g = 9
  · rw [if_pos c1] at h; obtain rfl := Option.some.inj h; obtain ⟨rfl, rfl⟩ := c1; simp
  rw [if_neg c1] at h
  by_cases c2 : t = 0 ∧ g = 10
  · rw [if_pos c2] at h; obtain rfl := Option.some.inj h; obtain ⟨rfl, rfl⟩ := c2; simp
  rw [if_neg c2] at h
  by_cases c3 : t = 0 ∧ g = 11
  · rw [if_pos c3] at h; obtain rfl := Option.some.inj h; obtain ⟨rfl, rfl⟩ := c3; simp
  rw [if_neg c3] at h
  by_cases c4 : t = 0 ∧ g = 12
  · rw [if_pos c4] at h; obtain rfl := Option.some.inj h; obtain ⟨rfl, rfl⟩ := c4; simp
  rw [if_neg c4] at h
  by_cases c5 : t = 1 ∧ g = 0
  · rw [if_pos c5] at h; obtain rfl := Option.some.inj h; obtain ⟨rfl, rfl⟩ := c5; simp
  rw [if_neg c5] at h
  by_cases c6 : t = 1 ∧ g = 1
  · rw [if_pos c6] at h; obtain rfl := Option.some.inj h; obtain ⟨rfl, rfl⟩ := c6; simp
  rw [if_neg c6] at h
  by_cases c7 : t = 1 ∧ g = 2
  · rw [if_pos c7] at h; obtain rfl := Option.some.inj h; obtain ⟨rfl, rfl⟩ := c7; simp
  rw [if_neg c7] at h
  by_cases c8 : t = 1 ∧ g = 3
  · rw [if_pos c8] at h; obtain rfl := Option.some.inj h; obtain ⟨rfl, rfl⟩ := c8; simp
  rw [if_neg c8] at h
  by_cases c9 : t = 1 ∧ g = 4
  · rw [if_pos c9] at h; obtain rfl := Option.some.inj h; obtain ⟨rfl, rfl⟩ := c9; simp
  rw [if_neg c9] at h
  by_cases c10 : t = 1 ∧ g = 5
  · rw [if_pos c10] at h; obtain rfl := Option.some.inj h; obtain ⟨rfl, rfl⟩ := c10; simp
  rw [if_neg c10] at h
  by_cases c11 : t = 1 ∧ g = 6
  · rw [if_pos c11] at h; obtain rfl := Option.some.inj h; obtain ⟨rfl, rfl⟩ := c11; simp
  rw [if_neg c11] at h
  by_cases c12 : t = 1 ∧ g = 7
  · rw [if_pos c12] at h; obtain rfl := Option.some.inj h; obtain ⟨rfl, rfl⟩ := c12; simp
  rw [if_neg c12] at h
  by_cases c13 : t = 1 ∧ g = 8
  · rw [if_pos c13] at h; obtain rfl := Option.some.inj h; obtain ⟨rfl, rfl⟩ := c13; simp
  rw [if_neg c13] at h
  by_cases c14 : t = 1 ∧ g = 9
  · rw [if_pos c14] at h; obtain rfl := Option.some.inj h; obtain ⟨rfl, rfl⟩ := c14; simp
  rw [if_neg c14] at h
  by_cases c15 : t = 1 ∧ g = 10
  · rw [if_pos c15] at h; obtain rfl := Option.some.inj h; obtain ⟨rfl, rfl⟩ := c15; simp
  rw [if_neg c15] at h
  by_cases c16 : t = 1 ∧ g = 11
  · rw [if_pos c16] at h; obtain rfl := Option.some.inj h; obtain ⟨rfl, rfl⟩ := c16; simp
  rw [if_neg c16] at h
  by_cases c17 : t = 2 ∧ g = 0
  · rw [if_pos c17] at h; obtain rfl := Option.some.inj h; obtain ⟨rfl, rfl⟩ := c17; simp
  rw [if_neg c17] at h
  by_cases c18 : t = 2 ∧ g = 1
  · rw [if_pos c18] at h; obtain rfl := Option.some.inj h; obtain ⟨rfl, rfl⟩ := c18; simp
  rw [if_neg c18] at h
  by_cases c19 : t = 2 ∧ g = 2
  · rw [if_pos c19] at h; obtain rfl := Option.some.inj h; obtain ⟨rfl, rfl⟩ := c19; simp
  rw [if_neg c19] at h
  cases h
theorem eff_any {w : World} {base R m : Nat} {vs vu vf vc : Value} {s : RS} (h : Rd w base R m vs vu vf vc s) (hb : base ≤ w.heap.size) (hs : s.Fine) (x : It) (hw : x.wide = true) (hok : x.ok) {f : FuncId} (hf : fnOf x.ty x.tg = some f) :
    Calls Try.prog f #[.pointer (some ⟨R, 0, none⟩), itV x] w (Did base R m w (effS s x)) := by
  rcases fnOf_cases hf with ⟨h1, h2, rfl⟩ | ⟨h1, h2, rfl⟩ | ⟨h1, h2, rfl⟩ | ⟨h1, h2, rfl⟩ | ⟨h1, h2, rfl⟩ | ⟨h1, h2, rfl⟩ | ⟨h1, h2, rfl⟩ | ⟨h1, h2, rfl⟩ | ⟨h1, h2, rfl⟩ | ⟨h1, h2, rfl⟩ | ⟨h1, h2, rfl⟩ | ⟨h1, h2, rfl⟩ | ⟨h1, h2, rfl⟩ | ⟨h1, h2, rfl⟩ | ⟨h1, h2, rfl⟩ | ⟨h1, h2, rfl⟩ | ⟨h1, h2, rfl⟩ | ⟨h1, h2, rfl⟩ | ⟨h1, h2, rfl⟩ | ⟨h1, h2, rfl⟩
  · exact input_any h hb hs x hw hok h1 h2
  · exact output_any h hb hs x hw hok h1 h2
  · exact begin_any h hb hs x hw hok h1 h2
  · exact feature_any h hb hs x hw hok h1 h2
  · exact end_any h hb hs x h1 h2
  · exact setPage_any h hb x h1 h2
  · exact setLo_any h hb x hw hok h1 h2
  · exact setHi_any h hb x hw hok h1 h2
  · exact nothing_any h hb x h1 (by omega)
  · exact nothing_any h hb x h1 (by omega)
  · exact nothing_any h hb x h1 (by omega)
  · exact nothing_any h hb x h1 (by omega)
  · exact setSize_any h hb x h1 h2
  · exact setReport_any h hb x h1 h2
  · exact setCount_any h hb x h1 h2
  · exact push_any h hb hs x h1 h2
  · exact pop_any h hb hs x h1 h2
  · exact one_any h hb hs x hw hok h1 h2
  · exact keep_any h hb hs x hw hok h1 h2
  · exact several_any h hb hs x hw hok h1 h2
theorem eff_none {s : RS} {x : It} (hf : fnOf x.ty x.tg = none) : effS s x = (4, s) := by
  have H : ∀ a b : Int, (fnOf a b).isSome = true → ¬ (x.ty = a ∧ x.tg = b) := by
    rintro a b h1 ⟨rfl, rfl⟩
    rw [hf] at h1; cases h1
  unfold effS
  by_cases t0 : x.ty = 0
  · rw [if_pos t0, if_neg (fun e => H 0 8 rfl ⟨t0, e⟩), if_neg (fun e => H 0 9 rfl ⟨t0, e⟩), if_neg (fun e => H 0 11 rfl ⟨t0, e⟩), if_neg (fun e => H 0 10 rfl ⟨t0, e⟩), if_neg (fun e => H 0 12 rfl ⟨t0, e⟩)]
  rw [if_neg t0]
  by_cases t1 : x.ty = 1
  · rw [if_pos t1, if_neg (fun e => H 1 0 rfl ⟨t1, e⟩), if_neg (fun e => H 1 1 rfl ⟨t1, e⟩), if_neg (fun e => H 1 2 rfl ⟨t1, e⟩), if_neg (fun e => e.elim (fun e => H 1 3 rfl ⟨t1, e⟩) (fun e => e.elim (fun e => H 1 4 rfl ⟨t1, e⟩) (fun e => e.elim (fun e => H 1 5 rfl ⟨t1, e⟩) (fun e => H 1 6 rfl ⟨t1, e⟩)))), if_neg (fun e => H 1 7 rfl ⟨t1, e⟩), if_neg (fun e => H 1 8 rfl ⟨t1, e⟩), if_neg (fun e => H 1 9 rfl ⟨t1, e⟩), if_neg (fun e => H 1 10 rfl ⟨t1, e⟩), if_neg (fun e => H 1 11 rfl ⟨t1, e⟩)]
  rw [if_neg t1]
  by_cases t2 : x.ty = 2
  · rw [if_pos t2, if_neg (fun e => H 2 0 rfl ⟨t2, e⟩), if_neg (fun e => H 2 1 rfl ⟨t2, e⟩), if_neg (fun e => H 2 2 rfl ⟨t2, e⟩)]
  rw [if_neg t2]
theorem fn_enters {t g : Int} {f : FuncId} (h : fnOf t g = some f) : ∀ args W, (callFunc f args).run Try.prog W = .ok (.enter f args) W := by
  rcases fnOf_cases h with ⟨_, _, rfl⟩ | ⟨_, _, rfl⟩ | ⟨_, _, rfl⟩ | ⟨_, _, rfl⟩ | ⟨_, _, rfl⟩ | ⟨_, _, rfl⟩ | ⟨_, _, rfl⟩ | ⟨_, _, rfl⟩ | ⟨_, _, rfl⟩ | ⟨_, _, rfl⟩ | ⟨_, _, rfl⟩ | ⟨_, _, rfl⟩ | ⟨_, _, rfl⟩ | ⟨_, _, rfl⟩ | ⟨_, _, rfl⟩ | ⟨_, _, rfl⟩ | ⟨_, _, rfl⟩ | ⟨_, _, rfl⟩ | ⟨_, _, rfl⟩ | ⟨_, _, rfl⟩
  · exact enters_of Try.func39 (by kernel_rfl) rfl
  · exact enters_of Try.func40 (by kernel_rfl) rfl
  · exact enters_of Try.func41 (by kernel_rfl) rfl
  · exact enters_of Try.func42 (by kernel_rfl) rfl
  · exact enters_of Try.func43 (by kernel_rfl) rfl
  · exact enters_of Try.func44 (by kernel_rfl) rfl
  · exact enters_of Try.func45 (by kernel_rfl) rfl
  · exact enters_of Try.func46 (by kernel_rfl) rfl
  · exact enters_of Try.func47 (by kernel_rfl) rfl
  · exact enters_of Try.func47 (by kernel_rfl) rfl
  · exact enters_of Try.func47 (by kernel_rfl) rfl
  · exact enters_of Try.func47 (by kernel_rfl) rfl
  · exact enters_of Try.func48 (by kernel_rfl) rfl
  · exact enters_of Try.func49 (by kernel_rfl) rfl
  · exact enters_of Try.func50 (by kernel_rfl) rfl
  · exact enters_of Try.func51 (by kernel_rfl) rfl
  · exact enters_of Try.func52 (by kernel_rfl) rfl
  · exact enters_of Try.func53 (by kernel_rfl) rfl
  · exact enters_of Try.func54 (by kernel_rfl) rfl
  · exact enters_of Try.func55 (by kernel_rfl) rfl
end Go.Proofs.Ytegdigfcgeoboaa
/- The table of effects. Printed by gen_e.py. -/
namespace Go.Proofs.Ytegdigfcgeoboaa
open Go.RowKit Go.Maps Go.WideShapes
attribute [local go_sem ↓] Go.wp_at_zero Go.wp_at_succ

def tabE : List (Int × Int × Nat) := [(0, 8, 39), (0, 9, 40), (0, 10, 41), (0, 11, 42), (0, 12, 43), (1, 0, 44), (1, 1, 45), (1, 2, 46), (1, 3, 47), (1, 4, 47), (1, 5, 47), (1, 6, 47), (1, 7, 48), (1, 8, 49), (1, 9, 50), (1, 10, 51), (1, 11, 52), (2, 0, 53), (2, 1, 54), (2, 2, 55)]
def keyE (r : Nat) : Value := pairV (tabE.getD r (0, 0, 0)).1 (tabE.getD r (0, 0, 0)).2.1
noncomputable def litE (r : Nat) : Lit := kL (tabE.getD r (0, 0, 0)).1 (tabE.getD r (0, 0, 0)).2.1
def valE (r : Nat) : Value := .func (.func (tabE.getD r (0, 0, 0)).2.2) #[] #[]
theorem tab_rng : ∀ r, r < 20 → (0 ≤ (tabE.getD r (0, 0, 0)).1 ∧ (tabE.getD r (0, 0, 0)).1 < 16) ∧ u8k (tabE.getD r (0, 0, 0)).2.1 := by unfold u8k; decide
theorem tab_ne : ∀ r, r < 20 → ∀ r', r' < 20 → r' ≠ r → ¬ ((tabE.getD r' (0, 0, 0)).1 = (tabE.getD r (0, 0, 0)).1 ∧ (tabE.getD r' (0, 0, 0)).2.1 = (tabE.getD r (0, 0, 0)).2.1) := by decide +kernel
theorem tab_fn : ∀ r, r < 20 → fnOf (tabE.getD r (0, 0, 0)).1 (tabE.getD r (0, 0, 0)).2.1 = some (tabE.getD r (0, 0, 0)).2.2 := by decide +kernel
theorem lit_key {r : Nat} (h : r < 20) : keyOf Try.prog 90 (keyE r) = some (litE r) := key_pair (tab_rng r h).1 (tab_rng r h).2
set_option maxRecDepth 100000 in
theorem lit_self {r : Nat} (h : r < 20) : (litE r).sameKey (litE r) = true := by
  have hk := kL_lit (tab_rng r h).1 (tab_rng r h).2
  unfold litE
  generalize kL _ _ = l at *
  exact WideAt.sameKey_self hk
theorem lit_ne {r r' : Nat} (h : r < 20) (h' : r' < 20) (hn : r' ≠ r) : (litE r').sameKey (litE r) = false := by
  unfold litE
  rw [kL_same (tab_rng r' h').1 (tab_rng r' h').2 (tab_rng r h).1 (tab_rng r h).2]
  have := tab_ne r h r' h' hn
  rw [Bool.and_eq_false_iff, beq_eq_false_iff_ne, beq_eq_false_iff_ne]
  by_cases e : (tabE.getD r' (0, 0, 0)).1 = (tabE.getD r (0, 0, 0)).1
  · exact .inr (fun e2 => this ⟨e, e2⟩)
  · exact .inl e
theorem bldE (a : Act) (w : World) (p q : Int) (d : Option Tmp) (pos : String) (ty : TypeId) (af : Array Edge) :
    (execOp a.eval { dst := d, op := .build 90 #[(0, .const (.int .u8 p)), (1, .const (.int .u8 q))], type := ty, pos := pos, after := af, guard := none }).run Try.prog w = .ok (.value (pairV p q)) w := by
  have hb : ∀ w, (Instr.build 90 #[(0, .int .u8 p), (1, .int .u8 q)]).run Try.prog w = .ok (pairV p q) w := fun w => by kernel_rfl
  have hc : ∀ x, a.eval (.const x) = x := fun _ => rfl
  simp [execOp, hc, hb, Result.andThen]
theorem insE (a : Act) (w w' : World) (k m v : Value) (m' k' v' : Operand) (h1 : a.eval m' = m) (h2 : a.eval k' = k) (h3 : a.eval v' = v) (hr : (Instr.mapUpdate 87 m k v).run Try.prog w = .ok () w') (d : Option Tmp) (pos : String) (ty : TypeId) (af : Array Edge) :
    (execOp a.eval { dst := d, op := .insert 87 m' k' v', type := ty, pos := pos, after := af, guard := none }).run Try.prog w = .ok .skip w' := by
  simp [execOp, h1, h2, h3, hr, Result.andThen]
theorem mkE (a : Act) (w : World) (d : Option Tmp) (pos : String) (ty : TypeId) (af : Array Edge) :
    (execOp a.eval { dst := d, op := .makeMap 87 none, type := ty, pos := pos, after := af, guard := none }).run Try.prog w = .ok (.value (.map (some w.heap.size))) (w.alloc (.map #[] 0)) := by
  simp [execOp, run_makeMap, Result.andThen]
section
variable {ops : Array Oper} {Q : Exit → Act → World → Prop} {W0 w : World} {fuel : Nat} {L : Nat → Bool} {a : Act} {pos : String} {ty : TypeId} {af : Array Edge}
abbrev KeepE (W0 : World) := LI Try.prog 90 20 keyE litE valE W0
theorem st_build (r : Nat) (hr : r < 20) {p q : Int} (hp : p = (tabE.getD r (0, 0, 0)).1) (hq : q = (tabE.getD r (0, 0, 0)).2.1) {d : Nat} (hd : d = 2 + r) (ho : ops[1 + 2 * r]? = some { dst := some d, op := .build 90 #[(0, .const (.int .u8 p)), (1, .const (.int .u8 q))], type := ty, pos := pos, after := af, guard := none })
    (hI : KeepE W0 (fuel + 1) L a w) : wpOp Try.prog ops Q (1 + 2 * r) (fun a' w' => KeepE W0 fuel (setL L (1 + 2 * r)) a' w') a w := by
  subst hp hq hd
  exact op_val ho rfl (bldE a w _ _ _ _ _ _) (hI.build hr)
theorem st_ins (r : Nat) (hr : r < 20) {f : FuncId} (hf : f = (tabE.getD r (0, 0, 0)).2.2) {k : Nat} (hk : k = 2 + r) (ho : ops[2 + 2 * r]? = some { dst := none, op := .insert 87 (.tmp 1) (.tmp k) (.func f), type := ty, pos := pos, after := af, guard := none })
    (hI : KeepE W0 (fuel + 1) L a w) (hL : L (2 + 2 * r) = false) (h0 : L 0 = true) (h1 : L (1 + 2 * r) = true) : wpOp Try.prog ops Q (2 + 2 * r) (fun a' w' => KeepE W0 fuel (setL L (2 + 2 * r)) a' w') a w := by
  subst hf hk
  obtain ⟨b, w', e1, e2, hrun, hJ⟩ := hI.insert (t := 87) (e := 89) hr (by decide) h0 h1 hL keyed90 Try.underlying87 (lit_key hr) (lit_self hr) (fun r' hr' hn => lit_ne hr hr' hn)
  have hv : a.eval (.func (tabE.getD r (0, 0, 0)).2.2) = valE r := rfl
  have hx := insE a w w' (keyE r) (.map (some b)) (valE r) (.tmp 1) (.tmp (2 + r)) (.func (tabE.getD r (0, 0, 0)).2.2) (eval_tmp e1) (eval_tmp e2) hv hrun none pos ty af
  exact op_skip ho rfl hx hJ
end
theorem tab_has : ∀ t g : Int, (∀ r, r < 20 → ¬ ((tabE.getD r (0, 0, 0)).1 = t ∧ (tabE.getD r (0, 0, 0)).2.1 = g)) → fnOf t g = none := by
  intro t g h
  cases hf : fnOf t g with
  | none => rfl
  | some f =>
    exfalso
    rcases fnOf_cases hf with ⟨rfl, rfl, _⟩ | ⟨rfl, rfl, _⟩ | ⟨rfl, rfl, _⟩ | ⟨rfl, rfl, _⟩ | ⟨rfl, rfl, _⟩ | ⟨rfl, rfl, _⟩ | ⟨rfl, rfl, _⟩ | ⟨rfl, rfl, _⟩ | ⟨rfl, rfl, _⟩ | ⟨rfl, rfl, _⟩ | ⟨rfl, rfl, _⟩ | ⟨rfl, rfl, _⟩ | ⟨rfl, rfl, _⟩ | ⟨rfl, rfl, _⟩ | ⟨rfl, rfl, _⟩ | ⟨rfl, rfl, _⟩ | ⟨rfl, rfl, _⟩ | ⟨rfl, rfl, _⟩ | ⟨rfl, rfl, _⟩ | ⟨rfl, rfl, _⟩
    · exact h 0 (by decide) ⟨rfl, rfl⟩
    · exact h 1 (by decide) ⟨rfl, rfl⟩
    · exact h 2 (by decide) ⟨rfl, rfl⟩
    · exact h 3 (by decide) ⟨rfl, rfl⟩
    · exact h 4 (by decide) ⟨rfl, rfl⟩
    · exact h 5 (by decide) ⟨rfl, rfl⟩
    · exact h 6 (by decide) ⟨rfl, rfl⟩
    · exact h 7 (by decide) ⟨rfl, rfl⟩
    · exact h 8 (by decide) ⟨rfl, rfl⟩
    · exact h 9 (by decide) ⟨rfl, rfl⟩
    · exact h 10 (by decide) ⟨rfl, rfl⟩
    · exact h 11 (by decide) ⟨rfl, rfl⟩
    · exact h 12 (by decide) ⟨rfl, rfl⟩
    · exact h 13 (by decide) ⟨rfl, rfl⟩
    · exact h 14 (by decide) ⟨rfl, rfl⟩
    · exact h 15 (by decide) ⟨rfl, rfl⟩
    · exact h 16 (by decide) ⟨rfl, rfl⟩
    · exact h 17 (by decide) ⟨rfl, rfl⟩
    · exact h 18 (by decide) ⟨rfl, rfl⟩
    · exact h 19 (by decide) ⟨rfl, rfl⟩
def EffIs (w0 w : World) (v : Value) : Prop := ∃ b n f, v = .map (some b) ∧ w0.heap.size ≤ b ∧ MapIs Try.prog 90 w b n f ∧ ∀ t g : Int, (0 ≤ t ∧ t < 16) → u8k g → f (kL t g) = (fnOf t g).map (fun f => .func (.func f) #[] #[])
set_option maxRecDepth 100000 in
set_option maxHeartbeats 4000000 in
theorem effects_any (w : World) : Calls Try.prog 28 #[] w fun e w' => ∃ v, e = .returned v ∧ EffIs w w' v ∧ Kept w w' := by
  go_enter Try.func28, Try.ntmps28
  go_upto_region 1 with (fail)
  refine wp_region_inv rfl (by kernel_rfl) (KeepE w.drew) ?start ?step ?ext ?done
  case start => exact LI.start rfl rfl (by decide)
  case ext => exact fun fuel L L' a w hL h => h.ext hL
  case step =>
    intro fuel L a wr i o ho hLi hdeps _ hI
    have hi : i < 43 := (Array.getElem?_eq_some_iff.1 ho).1
    match i, hi, ho, hLi with
    | 0, _, ho, hLi =>
      simp only [List.getElem?_toArray, List.getElem?_cons_succ, List.getElem?_cons_zero, Option.some.injEq] at ho
      subst ho
      exact op_val rfl rfl (mkE a wr _ _ _ _) (hI.make hLi)
    | 1, _, ho, hLi =>
      simp only [List.getElem?_toArray, List.getElem?_cons_succ, List.getElem?_cons_zero, Option.some.injEq] at ho
      subst ho
      exact st_build 0 (by decide) rfl rfl rfl rfl hI
    | 2, _, ho, hLi =>
      simp only [List.getElem?_toArray, List.getElem?_cons_succ, List.getElem?_cons_zero, Option.some.injEq] at ho
      subst ho
      exact st_ins 0 (by decide) rfl rfl rfl hI hLi (hdeps ⟨0, .data⟩ (by simp) rfl) (hdeps ⟨1, .data⟩ (by simp) rfl)
    | 3, _, ho, hLi =>
      simp only [List.getElem?_toArray, List.getElem?_cons_succ, List.getElem?_cons_zero, Option.some.injEq] at ho
      subst ho
      exact st_build 1 (by decide) rfl rfl rfl rfl hI
    | 4, _, ho, hLi =>
      simp only [List.getElem?_toArray, List.getElem?_cons_succ, List.getElem?_cons_zero, Option.some.injEq] at ho
      subst ho
      exact st_ins 1 (by decide) rfl rfl rfl hI hLi (hdeps ⟨0, .data⟩ (by simp) rfl) (hdeps ⟨3, .data⟩ (by simp) rfl)
    | 5, _, ho, hLi =>
      simp only [List.getElem?_toArray, List.getElem?_cons_succ, List.getElem?_cons_zero, Option.some.injEq] at ho
      subst ho
      exact st_build 2 (by decide) rfl rfl rfl rfl hI
    | 6, _, ho, hLi =>
      simp only [List.getElem?_toArray, List.getElem?_cons_succ, List.getElem?_cons_zero, Option.some.injEq] at ho
      subst ho
      exact st_ins 2 (by decide) rfl rfl rfl hI hLi (hdeps ⟨0, .data⟩ (by simp) rfl) (hdeps ⟨5, .data⟩ (by simp) rfl)
    | 7, _, ho, hLi =>
      simp only [List.getElem?_toArray, List.getElem?_cons_succ, List.getElem?_cons_zero, Option.some.injEq] at ho
      subst ho
      exact st_build 3 (by decide) rfl rfl rfl rfl hI
    | 8, _, ho, hLi =>
      simp only [List.getElem?_toArray, List.getElem?_cons_succ, List.getElem?_cons_zero, Option.some.injEq] at ho
      subst ho
      exact st_ins 3 (by decide) rfl rfl rfl hI hLi (hdeps ⟨0, .data⟩ (by simp) rfl) (hdeps ⟨7, .data⟩ (by simp) rfl)
    | 9, _, ho, hLi =>
      simp only [List.getElem?_toArray, List.getElem?_cons_succ, List.getElem?_cons_zero, Option.some.injEq] at ho
      subst ho
      exact st_build 4 (by decide) rfl rfl rfl rfl hI
    | 10, _, ho, hLi =>
      simp only [List.getElem?_toArray, List.getElem?_cons_succ, List.getElem?_cons_zero, Option.some.injEq] at ho
      subst ho
      exact st_ins 4 (by decide) rfl rfl rfl hI hLi (hdeps ⟨0, .data⟩ (by simp) rfl) (hdeps ⟨9, .data⟩ (by simp) rfl)
    | 11, _, ho, hLi =>
      simp only [List.getElem?_toArray, List.getElem?_cons_succ, List.getElem?_cons_zero, Option.some.injEq] at ho
      subst ho
      exact st_build 5 (by decide) rfl rfl rfl rfl hI
    | 12, _, ho, hLi =>
      simp only [List.getElem?_toArray, List.getElem?_cons_succ, List.getElem?_cons_zero, Option.some.injEq] at ho
      subst ho
      exact st_ins 5 (by decide) rfl rfl rfl hI hLi (hdeps ⟨0, .data⟩ (by simp) rfl) (hdeps ⟨11, .data⟩ (by simp) rfl)
    | 13, _, ho, hLi =>
      simp only [List.getElem?_toArray, List.getElem?_cons_succ, List.getElem?_cons_zero, Option.some.injEq] at ho
      subst ho
      exact st_build 6 (by decide) rfl rfl rfl rfl hI
    | 14, _, ho, hLi =>
      simp only [List.getElem?_toArray, List.getElem?_cons_succ, List.getElem?_cons_zero, Option.some.injEq] at ho
      subst ho
      exact st_ins 6 (by decide) rfl rfl rfl hI hLi (hdeps ⟨0, .data⟩ (by simp) rfl) (hdeps ⟨13, .data⟩ (by simp) rfl)
    | 15, _, ho, hLi =>
      simp only [List.getElem?_toArray, List.getElem?_cons_succ, List.getElem?_cons_zero, Option.some.injEq] at ho
      subst ho
      exact st_build 7 (by decide) rfl rfl rfl rfl hI
    | 16, _, ho, hLi =>
      simp only [List.getElem?_toArray, List.getElem?_cons_succ, List.getElem?_cons_zero, Option.some.injEq] at ho
      subst ho
      exact st_ins 7 (by decide) rfl rfl rfl hI hLi (hdeps ⟨0, .data⟩ (by simp) rfl) (hdeps ⟨15, .data⟩ (by simp) rfl)
    | 17, _, ho, hLi =>
      simp only [List.getElem?_toArray, List.getElem?_cons_succ, List.getElem?_cons_zero, Option.some.injEq] at ho
      subst ho
      exact st_build 8 (by decide) rfl rfl rfl rfl hI
    | 18, _, ho, hLi =>
      simp only [List.getElem?_toArray, List.getElem?_cons_succ, List.getElem?_cons_zero, Option.some.injEq] at ho
      subst ho
      exact st_ins 8 (by decide) rfl rfl rfl hI hLi (hdeps ⟨0, .data⟩ (by simp) rfl) (hdeps ⟨17, .data⟩ (by simp) rfl)
    | 19, _, ho, hLi =>
      simp only [List.getElem?_toArray, List.getElem?_cons_succ, List.getElem?_cons_zero, Option.some.injEq] at ho
      subst ho
      exact st_build 9 (by decide) rfl rfl rfl rfl hI
    | 20, _, ho, hLi =>
      simp only [List.getElem?_toArray, List.getElem?_cons_succ, List.getElem?_cons_zero, Option.some.injEq] at ho
      subst ho
      exact st_ins 9 (by decide) rfl rfl rfl hI hLi (hdeps ⟨0, .data⟩ (by simp) rfl) (hdeps ⟨19, .data⟩ (by simp) rfl)
    | 21, _, ho, hLi =>
      simp only [List.getElem?_toArray, List.getElem?_cons_succ, List.getElem?_cons_zero, Option.some.injEq] at ho
      subst ho
      exact st_build 10 (by decide) rfl rfl rfl rfl hI
    | 22, _, ho, hLi =>
      simp only [List.getElem?_toArray, List.getElem?_cons_succ, List.getElem?_cons_zero, Option.some.injEq] at ho
      subst ho
      exact st_ins 10 (by decide) rfl rfl rfl hI hLi (hdeps ⟨0, .data⟩ (by simp) rfl) (hdeps ⟨21, .data⟩ (by simp) rfl)
    | 23, _, ho, hLi =>
      simp only [List.getElem?_toArray, List.getElem?_cons_succ, List.getElem?_cons_zero, Option.some.injEq] at ho
      subst ho
      exact st_build 11 (by decide) rfl rfl rfl rfl hI
    | 24, _, ho, hLi =>
      simp only [List.getElem?_toArray, List.getElem?_cons_succ, List.getElem?_cons_zero, Option.some.injEq] at ho
      subst ho
      exact st_ins 11 (by decide) rfl rfl rfl hI hLi (hdeps ⟨0, .data⟩ (by simp) rfl) (hdeps ⟨23, .data⟩ (by simp) rfl)
    | 25, _, ho, hLi =>
      simp only [List.getElem?_toArray, List.getElem?_cons_succ, List.getElem?_cons_zero, Option.some.injEq] at ho
      subst ho
      exact st_build 12 (by decide) rfl rfl rfl rfl hI
    | 26, _, ho, hLi =>
      simp only [List.getElem?_toArray, List.getElem?_cons_succ, List.getElem?_cons_zero, Option.some.injEq] at ho
      subst ho
      exact st_ins 12 (by decide) rfl rfl rfl hI hLi (hdeps ⟨0, .data⟩ (by simp) rfl) (hdeps ⟨25, .data⟩ (by simp) rfl)
    | 27, _, ho, hLi =>
      simp only [List.getElem?_toArray, List.getElem?_cons_succ, List.getElem?_cons_zero, Option.some.injEq] at ho
      subst ho
      exact st_build 13 (by decide) rfl rfl rfl rfl hI
    | 28, _, ho, hLi =>
      simp only [List.getElem?_toArray, List.getElem?_cons_succ, List.getElem?_cons_zero, Option.some.injEq] at ho
      subst ho
      exact st_ins 13 (by decide) rfl rfl rfl hI hLi (hdeps ⟨0, .data⟩ (by simp) rfl) (hdeps ⟨27, .data⟩ (by simp) rfl)
    | 29, _, ho, hLi =>
      simp only [List.getElem?_toArray, List.getElem?_cons_succ, List.getElem?_cons_zero, Option.some.injEq] at ho
      subst ho
      exact st_build 14 (by decide) rfl rfl rfl rfl hI
    | 30, _, ho, hLi =>
      simp only [List.getElem?_toArray, List.getElem?_cons_succ, List.getElem?_cons_zero, Option.some.injEq] at ho
      subst ho
      exact st_ins 14 (by decide) rfl rfl rfl hI hLi (hdeps ⟨0, .data⟩ (by simp) rfl) (hdeps ⟨29, .data⟩ (by simp) rfl)
    | 31, _, ho, hLi =>
      simp only [List.getElem?_toArray, List.getElem?_cons_succ, List.getElem?_cons_zero, Option.some.injEq] at ho
      subst ho
      exact st_build 15 (by decide) rfl rfl rfl rfl hI
    | 32, _, ho, hLi =>
      simp only [List.getElem?_toArray, List.getElem?_cons_succ, List.getElem?_cons_zero, Option.some.injEq] at ho
      subst ho
      exact st_ins 15 (by decide) rfl rfl rfl hI hLi (hdeps ⟨0, .data⟩ (by simp) rfl) (hdeps ⟨31, .data⟩ (by simp) rfl)
    | 33, _, ho, hLi =>
      simp only [List.getElem?_toArray, List.getElem?_cons_succ, List.getElem?_cons_zero, Option.some.injEq] at ho
      subst ho
      exact st_build 16 (by decide) rfl rfl rfl rfl hI
    | 34, _, ho, hLi =>
      simp only [List.getElem?_toArray, List.getElem?_cons_succ, List.getElem?_cons_zero, Option.some.injEq] at ho
      subst ho
      exact st_ins 16 (by decide) rfl rfl rfl hI hLi (hdeps ⟨0, .data⟩ (by simp) rfl) (hdeps ⟨33, .data⟩ (by simp) rfl)
    | 35, _, ho, hLi =>
      simp only [List.getElem?_toArray, List.getElem?_cons_succ, List.getElem?_cons_zero, Option.some.injEq] at ho
      subst ho
      exact st_build 17 (by decide) rfl rfl rfl rfl hI
    | 36, _, ho, hLi =>
      simp only [List.getElem?_toArray, List.getElem?_cons_succ, List.getElem?_cons_zero, Option.some.injEq] at ho
      subst ho
      exact st_ins 17 (by decide) rfl rfl rfl hI hLi (hdeps ⟨0, .data⟩ (by simp) rfl) (hdeps ⟨35, .data⟩ (by simp) rfl)
    | 37, _, ho, hLi =>
      simp only [List.getElem?_toArray, List.getElem?_cons_succ, List.getElem?_cons_zero, Option.some.injEq] at ho
      subst ho
      exact st_build 18 (by decide) rfl rfl rfl rfl hI
    | 38, _, ho, hLi =>
      simp only [List.getElem?_toArray, List.getElem?_cons_succ, List.getElem?_cons_zero, Option.some.injEq] at ho
      subst ho
      exact st_ins 18 (by decide) rfl rfl rfl hI hLi (hdeps ⟨0, .data⟩ (by simp) rfl) (hdeps ⟨37, .data⟩ (by simp) rfl)
    | 39, _, ho, hLi =>
      simp only [List.getElem?_toArray, List.getElem?_cons_succ, List.getElem?_cons_zero, Option.some.injEq] at ho
      subst ho
      exact st_build 19 (by decide) rfl rfl rfl rfl hI
    | 40, _, ho, hLi =>
      simp only [List.getElem?_toArray, List.getElem?_cons_succ, List.getElem?_cons_zero, Option.some.injEq] at ho
      subst ho
      exact st_ins 19 (by decide) rfl rfl rfl hI hLi (hdeps ⟨0, .data⟩ (by simp) rfl) (hdeps ⟨39, .data⟩ (by simp) rfl)
    | 41, _, ho, hLi =>
      simp only [List.getElem?_toArray, List.getElem?_cons_succ, List.getElem?_cons_zero, Option.some.injEq] at ho
      subst ho
      have h0 := hdeps ⟨0, .data⟩ (by simp) rfl
      obtain ⟨b, n, f, e1, _⟩ := hI.map h0
      refine op_val (v := a.eval (.tmp 1)) rfl rfl rfl ?_
      rw [eval_tmp e1]
      exact hI.move h0 e1
    | 42, _, ho, hLi =>
      simp only [List.getElem?_toArray, List.getElem?_cons_succ, List.getElem?_cons_zero, Option.some.injEq] at ho
      subst ho
      have hm := hdeps ⟨41, .data⟩ (by simp) rfl
      obtain ⟨h0, e⟩ := hI.mv hm
      obtain ⟨b, n, f, e1, _⟩ := hI.map h0
      rw [e1] at e
      refine op_val (v := a.eval (.tmp 22)) rfl rfl rfl ?_
      rw [eval_tmp e]
      exact hI.assign hm e
  case done =>
    intro L a wr hL hI
    obtain ⟨h0, e0⟩ := hI.res (hL 42 (by decide))
    obtain ⟨b, n, f, e1, e2, e3, e4, e5, e6⟩ := hI.map h0
    rw [e1] at e0
    go_wp2
    refine bodyPost_ret (v := .map (some b)) (by simp [results, Try.results28, go_sem, Array.getD_eq_getD_getElem?, e0]) hI.defers ⟨_, rfl, ⟨b, n, f, rfl, e4, e3, fun t g ht hg => ?_⟩, of_drew hI.kept⟩
    by_cases hr : ∃ r, r < 20 ∧ (tabE.getD r (0, 0, 0)).1 = t ∧ (tabE.getD r (0, 0, 0)).2.1 = g
    · obtain ⟨r, hr, rfl, rfl⟩ := hr
      rw [tab_fn r hr]
      exact e5 r hr (hL _ (by show 2 + 2 * r < 43; omega))
    · rw [tab_has t g (fun r h h2 => hr ⟨r, h, h2⟩)]
      refine e6 _ fun r h _ => ?_
      unfold litE
      rw [kL_same ht hg (tab_rng r h).1 (tab_rng r h).2, Bool.and_eq_false_iff, beq_eq_false_iff_ne, beq_eq_false_iff_ne]
      by_cases e : t = (tabE.getD r (0, 0, 0)).1
      · exact .inr (fun e2 => hr ⟨r, h, e.symm, e2.symm⟩)
      · exact .inl e
end Go.Proofs.Ytegdigfcgeoboaa
