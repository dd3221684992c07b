/- The law of the chapter on reports, part 10: Ry Rt Ru Ff Ri Rj Ea. -/
import Derived.Test.YtegdigfcgeoboaaK9
set_option maxHeartbeats 16000000
set_option linter.unusedVariables false
set_option linter.unusedSimpArgs false
set_option linter.unusedSectionVars false
namespace Go.Proofs.Ytegdigfcgeoboaa
open Go.RowKit Go.Maps
attribute [local go_sem ↓] Go.wp_at_zero Go.wp_at_succ
set_option maxRecDepth 100000 in
theorem field_many {w : World} {base R m : Nat} {vs vu vf vc : Value} {s : RS} (h : Rd w base R m vs vu vf vc s) (hb : base ≤ w.heap.size) (hs : s.Fine) (k : Int) (x : It) (c : ¬ s.opn < 0) (c1 : 1 ≤ s.g.size ∧ s.g.size ≤ 32) (c2 : 256 < s.g.count) :
  Calls Try.prog 60 #[.pointer (some ⟨R, 0, none⟩), .int .u8 k, itV x] w (Did base R m w (fieldS s k x)) := by
 have hE : fieldS s k x = (3, s) := by unfold fieldS; rw [if_neg c, if_pos (.inr (.inr (.inr (.inl c2))))]
 rw [hE]
 clear hE
 have d1 : decide (s.g.size < 1) = false := decide_eq_false (by omega)
 have d2 : decide (32 < s.g.size) = false := decide_eq_false (by omega)
 have d3 : decide (s.g.count < 1) = false := decide_eq_false (by omega)
 clear c1
 have c' : 0 ≤ s.opn := by omega
 have hRl := heap_lt h.box
 have hml : m < w.heap.size := Nat.lt_of_lt_of_le h.low.2.1 hb
 have hrp := hs.report
 have hwr : IntKind.u8.wrap s.g.report = s.g.report := by rw [IntKind.wrap_u8]; omega
 have c5 : w.cell? ⟨R, 5, none⟩ = some (.int .u32 s.g.report) := cell_heap h.box (o := 5) rfl
 have c10 : w.cell? ⟨R, 10, none⟩ = some (.int .i64 s.opn) := cell_heap h.box (o := 10) rfl
 unfold itV
 go_enter Try.func60, Try.ntmps60
 go_upto_region 4 with (fail)
 refine wp_at (fun W => Rd W base R m vs vu vf vc s ∧ W.heap[w.heap.size + 1]? = some (.cells #[.int .u8 k, .int .u8 s.g.report] 90 (0, 0)) ∧ W.heap[w.heap.size]? = some (.cells #[.int .u8 x.ty, .int .u8 x.tg, .int .i64 x.size, .int .u32 x.data] 29 (0, 0)) ∧ Kept w W ∧ W.heap.size = w.heap.size + 2) ⟨h.kept (by go_grown), heap_at _ (by simp), heap_past (heap_at _ rfl), by go_grown, by simp⟩ (fun W hW => ?_)
 obtain ⟨hr, hb1, hb2, hkW, hz⟩ := hW
 clear c5 c10
 have c3 : W.cell? ⟨R, 3, none⟩ = some (.int .u32 s.g.size) := cell_heap hr.box (o := 3) rfl
 have c4 : W.cell? ⟨R, 4, none⟩ = some (.int .u32 s.g.count) := cell_heap hr.box (o := 4) rfl
 have c5 : W.cell? ⟨R, 5, none⟩ = some (.int .u32 s.g.report) := cell_heap hr.box (o := 5) rfl
 have Hkw := hide hkW
 clear hkW hz hb1 hb2 hr hrp hs hml
 go_quiet (fail)
 go_wp2_with fail
 go_ret
 exact ⟨rfl, Fr.kept (below_drewN Hkw.out _) hb, fun e => by cases e⟩
set_option maxRecDepth 100000 in
theorem field_bits {w : World} {base R m : Nat} {vs vu vf vc : Value} {s : RS} (h : Rd w base R m vs vu vf vc s) (hb : base ≤ w.heap.size) (hs : s.Fine) (k : Int) (hk : 1 ≤ k ∧ k ≤ 3) (x : It) (c : ¬ s.opn < 0) (c1 : 1 ≤ s.g.size ∧ s.g.size ≤ 32) (c2 : 1 ≤ s.g.count ∧ s.g.count ≤ 256) (c3 : 4096 < bitsS s.fields k s.g.report + s.g.size * s.g.count) :
  Calls Try.prog 60 #[.pointer (some ⟨R, 0, none⟩), .int .u8 k, itV x] w (Did base R m w (fieldS s k x)) := by
 have hE : fieldS s k x = (3, s) := by
  have hrp := hs.report
  unfold fieldS
  rw [if_neg c, show s.g.report % 256 = s.g.report by omega, if_pos (.inr (.inr (.inr (.inr (.inl c3)))))]
 rw [hE]
 clear hE
 obtain ⟨d1, d2⟩ := c1
 obtain ⟨d3, d4⟩ := c2
 have C3 := hide c3
 clear c3
 have c' : 0 ≤ s.opn := by omega
 have hRl := heap_lt h.box
 have hml : m < w.heap.size := Nat.lt_of_lt_of_le h.low.2.1 hb
 have hrp := hs.report
 have hwr : IntKind.u8.wrap s.g.report = s.g.report := by rw [IntKind.wrap_u8]; omega
 have c5 : w.cell? ⟨R, 5, none⟩ = some (.int .u32 s.g.report) := cell_heap h.box (o := 5) rfl
 have c10 : w.cell? ⟨R, 10, none⟩ = some (.int .i64 s.opn) := cell_heap h.box (o := 10) rfl
 unfold itV
 go_enter Try.func60, Try.ntmps60
 go_upto_region 4 with (fail)
 refine wp_at (fun W => Rd W base R m vs vu vf vc s ∧ W.heap[w.heap.size + 1]? = some (.cells #[.int .u8 k, .int .u8 s.g.report] 90 (0, 0)) ∧ W.heap[w.heap.size]? = some (.cells #[.int .u8 x.ty, .int .u8 x.tg, .int .i64 x.size, .int .u32 x.data] 29 (0, 0)) ∧ Kept w W ∧ W.heap.size = w.heap.size + 2) ⟨h.kept (by go_grown), heap_at _ (by simp), heap_past (heap_at _ rfl), by go_grown, by simp⟩ (fun W hW => ?_)
 obtain ⟨hr, hb1, hb2, hkW, hz⟩ := hW
 clear c5 c10
 obtain ⟨B, hB⟩ : ∃ B, bitsS s.fields k s.g.report = B := ⟨_, rfl⟩
 obtain ⟨P, hP⟩ : ∃ P, s.g.size * s.g.count = P := ⟨_, rfl⟩
 have hlk : ∀ n, (Instr.lookup 81 (.map (some m)) (.agg #[.int .u8 k, .int .u8 s.g.report]) false).run Try.prog (W.drewN n) = .ok (.int .i64 B) (W.drewN n) := fun n => by rw [← hB]; exact hr.look (w' := W.drewN n) rfl hk (by unfold u8k; omega)
 have hb0 := hs.bits k s.g.report
 rw [hB] at hb0
 have hP1 : 1 ≤ P ∧ P ≤ 8192 := by
  rw [← hP]
  have h1 : s.g.size * s.g.count ≤ 32 * s.g.count := Int.mul_le_mul_of_nonneg_right (by omega) (by omega)
  have h2 : 1 * s.g.count ≤ s.g.size * s.g.count := Int.mul_le_mul_of_nonneg_right (by omega) (by omega)
  omega
 obtain ⟨hP1, hP2⟩ := hP1
 obtain ⟨hB1, hB2⟩ := hb0
 have hw1 : IntKind.u32.wrap (s.g.size * s.g.count) = P := by rw [hP, IntKind.wrap_u32]; omega
 have hw2 : IntKind.i64.wrap P = P := by rw [IntKind.wrap_i64]; omega
 have hw3 : IntKind.i64.wrap (B + P) = B + P := by rw [IntKind.wrap_i64]; omega
 have c3 : W.cell? ⟨R, 3, none⟩ = some (.int .u32 s.g.size) := cell_heap hr.box (o := 3) rfl
 have c4 : W.cell? ⟨R, 4, none⟩ = some (.int .u32 s.g.count) := cell_heap hr.box (o := 4) rfl
 have c5 : W.cell? ⟨R, 5, none⟩ = some (.int .u32 s.g.report) := cell_heap hr.box (o := 5) rfl
 have c11 : W.cell? ⟨R, 11, none⟩ = some (.map (some m)) := cell_heap hr.box (o := 11) rfl
 have c12 : W.cell? ⟨R, 12, none⟩ = some vf := cell_heap hr.box (o := 12) rfl
 have k0 : W.cell? ⟨w.heap.size + 1, 0, none⟩ = some (.int .u8 k) := cell_heap hb1 (o := 0) rfl
 have k1 : W.cell? ⟨w.heap.size + 1, 1, none⟩ = some (.int .u8 s.g.report) := cell_heap hb1 (o := 1) rfl
 have hHlk := hide hB
 have hHP := hide hP
 clear hB hP
 obtain ⟨F, cf, rfl, hF1, hF2⟩ := hr.fs.isSlice
 have d5 : 4096 < B + P := by have := C3.out; rw [hHlk.out, hHP.out] at this; exact this
 have Hkw := hide hkW
 clear hkW hz hb1 hb2 hr hrp hs hk hml
 go_quiet (fail)
 go_wp2_with fail
 go_ret
 exact ⟨rfl, Fr.kept (below_drewN Hkw.out _) hb, fun e => by cases e⟩
set_option maxRecDepth 100000 in
theorem field_full {w : World} {base R m : Nat} {vs vu vf vc : Value} {s : RS} (h : Rd w base R m vs vu vf vc s) (hb : base ≤ w.heap.size) (hs : s.Fine) (k : Int) (hk : 1 ≤ k ∧ k ≤ 3) (x : It) (c : ¬ s.opn < 0) (c1 : 1 ≤ s.g.size ∧ s.g.size ≤ 32) (c2 : 1 ≤ s.g.count ∧ s.g.count ≤ 256) (c3 : ¬ 4096 < bitsS s.fields k s.g.report + s.g.size * s.g.count) (c4 : 256 ≤ s.fields.length) :
  Calls Try.prog 60 #[.pointer (some ⟨R, 0, none⟩), .int .u8 k, itV x] w (Did base R m w (fieldS s k x)) := by
 have hE : fieldS s k x = (3, s) := by
  have hrp := hs.report
  unfold fieldS
  rw [if_neg c, show s.g.report % 256 = s.g.report by omega, if_pos (.inr (.inr (.inr (.inr (.inr c4)))))]
 rw [hE]
 clear hE
 obtain ⟨d1, d2⟩ := c1
 obtain ⟨d3, d4⟩ := c2
 have C3 := hide c3
 clear c3
 have d7 : (256 : Int) ≤ (s.fields.length : Int) := by omega
 have c' : 0 ≤ s.opn := by omega
 have hRl := heap_lt h.box
 have hml : m < w.heap.size := Nat.lt_of_lt_of_le h.low.2.1 hb
 have hrp := hs.report
 have hwr : IntKind.u8.wrap s.g.report = s.g.report := by rw [IntKind.wrap_u8]; omega
 have c5 : w.cell? ⟨R, 5, none⟩ = some (.int .u32 s.g.report) := cell_heap h.box (o := 5) rfl
 have c10 : w.cell? ⟨R, 10, none⟩ = some (.int .i64 s.opn) := cell_heap h.box (o := 10) rfl
 unfold itV
 go_enter Try.func60, Try.ntmps60
 go_upto_region 4 with (fail)
 refine wp_at (fun W => Rd W base R m vs vu vf vc s ∧ W.heap[w.heap.size + 1]? = some (.cells #[.int .u8 k, .int .u8 s.g.report] 90 (0, 0)) ∧ W.heap[w.heap.size]? = some (.cells #[.int .u8 x.ty, .int .u8 x.tg, .int .i64 x.size, .int .u32 x.data] 29 (0, 0)) ∧ Kept w W ∧ W.heap.size = w.heap.size + 2) ⟨h.kept (by go_grown), heap_at _ (by simp), heap_past (heap_at _ rfl), by go_grown, by simp⟩ (fun W hW => ?_)
 obtain ⟨hr, hb1, hb2, hkW, hz⟩ := hW
 clear c5 c10
 obtain ⟨B, hB⟩ : ∃ B, bitsS s.fields k s.g.report = B := ⟨_, rfl⟩
 obtain ⟨P, hP⟩ : ∃ P, s.g.size * s.g.count = P := ⟨_, rfl⟩
 have hlk : ∀ n, (Instr.lookup 81 (.map (some m)) (.agg #[.int .u8 k, .int .u8 s.g.report]) false).run Try.prog (W.drewN n) = .ok (.int .i64 B) (W.drewN n) := fun n => by rw [← hB]; exact hr.look (w' := W.drewN n) rfl hk (by unfold u8k; omega)
 have hb0 := hs.bits k s.g.report
 rw [hB] at hb0
 have hP1 : 1 ≤ P ∧ P ≤ 8192 := by
  rw [← hP]
  have h1 : s.g.size * s.g.count ≤ 32 * s.g.count := Int.mul_le_mul_of_nonneg_right (by omega) (by omega)
  have h2 : 1 * s.g.count ≤ s.g.size * s.g.count := Int.mul_le_mul_of_nonneg_right (by omega) (by omega)
  omega
 obtain ⟨hP1, hP2⟩ := hP1
 obtain ⟨hB1, hB2⟩ := hb0
 have hw1 : IntKind.u32.wrap (s.g.size * s.g.count) = P := by rw [hP, IntKind.wrap_u32]; omega
 have hw2 : IntKind.i64.wrap P = P := by rw [IntKind.wrap_i64]; omega
 have hw3 : IntKind.i64.wrap (B + P) = B + P := by rw [IntKind.wrap_i64]; omega
 have c3 : W.cell? ⟨R, 3, none⟩ = some (.int .u32 s.g.size) := cell_heap hr.box (o := 3) rfl
 have c4 : W.cell? ⟨R, 4, none⟩ = some (.int .u32 s.g.count) := cell_heap hr.box (o := 4) rfl
 have c5 : W.cell? ⟨R, 5, none⟩ = some (.int .u32 s.g.report) := cell_heap hr.box (o := 5) rfl
 have c11 : W.cell? ⟨R, 11, none⟩ = some (.map (some m)) := cell_heap hr.box (o := 11) rfl
 have c12 : W.cell? ⟨R, 12, none⟩ = some vf := cell_heap hr.box (o := 12) rfl
 have k0 : W.cell? ⟨w.heap.size + 1, 0, none⟩ = some (.int .u8 k) := cell_heap hb1 (o := 0) rfl
 have k1 : W.cell? ⟨w.heap.size + 1, 1, none⟩ = some (.int .u8 s.g.report) := cell_heap hb1 (o := 1) rfl
 have hHlk := hide hB
 have hHP := hide hP
 clear hB hP
 obtain ⟨F, cf, rfl, hF1, hF2⟩ := hr.fs.isSlice
 have d5 : B + P ≤ 4096 := by have := C3.out; rw [hHlk.out, hHP.out] at this; omega
 have Hkw := hide hkW
 clear hkW hz hb1 hb2 hr hrp hs hk hml
 go_quiet (fail)
 go_wp2_with fail
 go_ret
 exact ⟨rfl, Fr.kept (below_drewN Hkw.out _) hb, fun e => by cases e⟩
set_option maxRecDepth 1000000 in
theorem field_go {w : World} {base R m : Nat} {vs vu vf vc : Value} {s : RS} (h : Rd w base R m vs vu vf vc s) (hb : base ≤ w.heap.size) (hs : s.Fine) (k : Int) (hk : 1 ≤ k ∧ k ≤ 3) (x : It) (hx0 : 0 ≤ x.data) (hx1 : x.data < 4294967296) (c : ¬ s.opn < 0) (c1 : 1 ≤ s.g.size ∧ s.g.size ≤ 32) (c2 : 1 ≤ s.g.count ∧ s.g.count ≤ 256) (c3 : ¬ 4096 < bitsS s.fields k s.g.report + s.g.size * s.g.count) (c4 : s.fields.length < 256) :
  Calls Try.prog 60 #[.pointer (some ⟨R, 0, none⟩), .int .u8 k, itV x] w (Did base R m w (fieldS s k x)) := by
 obtain ⟨e1, e2⟩ := c1
 obtain ⟨e3, e4⟩ := c2
 have d1 : decide (s.g.size < 1) = false := decide_eq_false (by omega)
 have d2 : decide (32 < s.g.size) = false := decide_eq_false (by omega)
 have d3 : decide (s.g.count < 1) = false := decide_eq_false (by omega)
 have d4 : decide (256 < s.g.count) = false := decide_eq_false (by omega)
 have C3 := hide c3
 have C4 := hide c4
 clear c3 c4
 have Hh := hide h
 have Hb := hide hb
 have c' : 0 ≤ s.opn := by omega
 have hRl := heap_lt h.box
 have hml : m < w.heap.size := Nat.lt_of_lt_of_le h.low.2.1 hb
 have hrp := hs.report
 have hwr : IntKind.u8.wrap s.g.report = s.g.report := by rw [IntKind.wrap_u8]; omega
 have c5 : w.cell? ⟨R, 5, none⟩ = some (.int .u32 s.g.report) := cell_heap h.box (o := 5) rfl
 have c10 : w.cell? ⟨R, 10, none⟩ = some (.int .i64 s.opn) := cell_heap h.box (o := 10) rfl
 unfold itV
 go_enter Try.func60, Try.ntmps60
 go_upto_region 4 with (fail)
 refine wp_at (fun W => Rd W base R m vs vu vf vc s ∧ W.heap[w.heap.size + 1]? = some (.cells #[.int .u8 k, .int .u8 s.g.report] 90 (0, 0)) ∧ W.heap[w.heap.size]? = some (.cells #[.int .u8 x.ty, .int .u8 x.tg, .int .i64 x.size, .int .u32 x.data] 29 (0, 0)) ∧ Kept w W ∧ W.heap.size = w.heap.size + 2) ⟨h.kept (by go_grown), heap_at _ (by simp), heap_past (heap_at _ rfl), by go_grown, by simp⟩ (fun W hW => ?_)
 obtain ⟨hr, hb1, hb2, hkW, hz⟩ := hW
 clear c5 c10
 obtain ⟨B, hB⟩ : ∃ B, bitsS s.fields k s.g.report = B := ⟨_, rfl⟩
 obtain ⟨P, hP⟩ : ∃ P, s.g.size * s.g.count = P := ⟨_, rfl⟩
 have hlk : ∀ n, (Instr.lookup 81 (.map (some m)) (.agg #[.int .u8 k, .int .u8 s.g.report]) false).run Try.prog (W.drewN n) = .ok (.int .i64 B) (W.drewN n) := fun n => by rw [← hB]; exact hr.look (w' := W.drewN n) rfl hk (by unfold u8k; omega)
 have hb0 := hs.bits k s.g.report
 rw [hB] at hb0
 have hP1 : 1 ≤ P ∧ P ≤ 8192 := by
  rw [← hP]
  have h1 : s.g.size * s.g.count ≤ 32 * s.g.count := Int.mul_le_mul_of_nonneg_right (by omega) (by omega)
  have h2 : 1 * s.g.count ≤ s.g.size * s.g.count := Int.mul_le_mul_of_nonneg_right (by omega) (by omega)
  omega
 obtain ⟨hP1, hP2⟩ := hP1
 obtain ⟨hB1, hB2⟩ := hb0
 have hw1 : IntKind.u32.wrap (s.g.size * s.g.count) = P := by rw [hP, IntKind.wrap_u32]; omega
 have hw2 : IntKind.i64.wrap P = P := by rw [IntKind.wrap_i64]; omega
 have hw3 : IntKind.i64.wrap (B + P) = B + P := by rw [IntKind.wrap_i64]; omega
 have c3 : W.cell? ⟨R, 3, none⟩ = some (.int .u32 s.g.size) := cell_heap hr.box (o := 3) rfl
 have c4 : W.cell? ⟨R, 4, none⟩ = some (.int .u32 s.g.count) := cell_heap hr.box (o := 4) rfl
 have c5 : W.cell? ⟨R, 5, none⟩ = some (.int .u32 s.g.report) := cell_heap hr.box (o := 5) rfl
 have c11 : W.cell? ⟨R, 11, none⟩ = some (.map (some m)) := cell_heap hr.box (o := 11) rfl
 have c12 : W.cell? ⟨R, 12, none⟩ = some vf := cell_heap hr.box (o := 12) rfl
 have k0 : W.cell? ⟨w.heap.size + 1, 0, none⟩ = some (.int .u8 k) := cell_heap hb1 (o := 0) rfl
 have k1 : W.cell? ⟨w.heap.size + 1, 1, none⟩ = some (.int .u8 s.g.report) := cell_heap hb1 (o := 1) rfl
 have hHlk := hide hB
 have hHP := hide hP
 clear hB hP
 obtain ⟨F, cf, rfl, hF1, hF2⟩ := hr.fs.isSlice
 have d5 : B + P ≤ 4096 := by have := C3.out; rw [hHlk.out, hHP.out] at this; omega
 have d6 : decide (4096 < B + P) = false := decide_eq_false (by omega)
 have d7 : decide (256 ≤ (s.fields.length : Int)) = false := decide_eq_false (by have := C4.out; omega)
 have Hkw := hide hkW
 have Hr := hide hr
 have Hs := hide hs
 have Hk := hide hk
 have E1 := hide e1
 have E2 := hide e2
 have E3 := hide e3
 have E4 := hide e4
 have D5 := hide d5
 have Hb1 := hide hb1
 have Hb2 := hide hb2
 clear hkW hz hb1 hb2 hr hrp hs hk hml h hb e1 e2 e3 e4 d5 hP1 hP2 hB1 hB2
 go_quiet (fail)
 clear hlk hw1 hw2 hw3 c3 c4 c5 c11 c12 k0 k1
 go_upto_region 6 with (fail)
 have hkn : Kept W (W.drewN nq) := below_drewN (Below.refl _ _) _
 refine field_mid (Hr.out.kept hkn) Hb.out (Hkw.out.trans' hkn) Hh.out.old Hs.out k Hk.out x hx0 hx1 c' E1.out E2.out E3.out E4.out (by rw [hHlk.out, hHP.out]; exact D5.out) C4.out (heap_kept hkn Hb1.out) (heap_kept hkn Hb2.out) _ ?_
 assumption
theorem field_any {w : World} {base R m : Nat} {vs vu vf vc : Value} {s : RS} (h : Rd w base R m vs vu vf vc s) (hb : base ≤ w.heap.size) (hs : s.Fine) (k : Int) (hk : 1 ≤ k ∧ k ≤ 3) (x : It) (hx0 : 0 ≤ x.data) (hx1 : x.data < 4294967296) :
  Calls Try.prog 60 #[.pointer (some ⟨R, 0, none⟩), .int .u8 k, itV x] w (Did base R m w (fieldS s k x)) := by
 by_cases c : s.opn < 0
 ·exact field_closed h hb hs k x c
 by_cases c1 : s.g.size < 1
 ·exact field_small h hb hs k x c c1
 by_cases c2 : 32 < s.g.size
 ·exact field_wide h hb hs k x c c2
 by_cases c3 : s.g.count < 1
 ·exact field_none h hb hs k x c ⟨by omega, by omega⟩ c3
 by_cases c4 : 256 < s.g.count
 ·exact field_many h hb hs k x c ⟨by omega, by omega⟩ c4
 by_cases c5 : 4096 < bitsS s.fields k s.g.report + s.g.size * s.g.count
 ·exact field_bits h hb hs k hk x c ⟨by omega, by omega⟩ ⟨by omega, by omega⟩ c5
 by_cases c6 : 256 ≤ s.fields.length
 ·exact field_full h hb hs k hk x c ⟨by omega, by omega⟩ ⟨by omega, by omega⟩ c5 c6
 exact field_go h hb hs k hk x hx0 hx1 c ⟨by omega, by omega⟩ ⟨by omega, by omega⟩ c5 (by omega)
theorem Did.from {base R m : Nat} {w w1 w' : World} {r : Int × RS} {e : Ending} (h : Did base R m w1 r e w') (hf : Fr base R m w w1) : Did base R m w r e w' := ⟨h.1, hf.trans h.2.1, h.2.2⟩
def Bx (w : World) (x : It) (w' : World) : Prop := Kept w w' ∧ w'.heap[w.heap.size]? = some (.cells #[.int .u8 x.ty, .int .u8 x.tg, .int .i64 x.size, .int .u32 x.data] 29 (0, 0))
theorem Bx.keep {w w' w'' : World} {x : It} (h : Bx w x w') (hk : Kept w' w'') : Bx w x w'' := ⟨h.1.trans' hk, heap_kept hk h.2⟩
theorem Bx.drew {w w' : World} {x : It} (h : Bx w x w') : Bx w x w'.drew := h.keep (Below.refl _ _).drew
theorem Bx.new (w : World) (x : It) : Bx w x (w.alloc (.cells #[.int .u8 x.ty, .int .u8 x.tg, .int .i64 x.size, .int .u32 x.data] 29)) := ⟨by go_grown, heap_at _ rfl⟩
set_option maxRecDepth 100000 in
theorem one_any {w : World} {base R m : Nat} {vs vu vf vc : Value} {s : RS} (h : Rd w base R m vs vu vf vc s) (hb : base ≤ w.heap.size) (hs : s.Fine) (x : It) (hw : x.wide = true) (hok : x.ok) (h1 : x.ty = 2) (h2 : x.tg = 0) :
  Calls Try.prog 53 #[.pointer (some ⟨R, 0, none⟩), itV x] w (Did base R m w (effS s x)) := by
 have hE : effS s x = addS s (usageS s x) (usageS s x) := by simp [effS, h1, h2]
 rw [hE]
 clear hE
 have hu := usage_range hs hw hok
 have hus : ∀ {w'}, Bx w x w' → Calls Try.prog 63 #[.pointer (some ⟨R, 0, none⟩), itV x] w' fun e w'' => e = .returned (.int .u32 (usageS s x)) ∧ Bx w x w'' :=
  fun hk => (usage_any (h.kept hk.1) hs x hw hok).mono fun e w'' ⟨e1, e2⟩ => ⟨e1, hk.keep e2⟩
 have hnew := Bx.new w x
 have had : ∀ {w'}, Bx w x w' → Calls Try.prog 62 #[.pointer (some ⟨R, 0, none⟩), .int .u32 (usageS s x), .int .u32 (usageS s x)] w' (Did base R m w (addS s (usageS s x) (usageS s x))) :=
  fun hk => (add_any (h.kept hk.1) (Nat.le_trans hb hk.1.size) hs.usages.1 _ _ hu hu (Int.le_refl _)).mono fun e w'' hd => hd.from (Fr.kept hk.1 hb)
 generalize addS s (usageS s x) (usageS s x) = res at *
 generalize usageS s x = u at *
 unfold itV at hus ⊢
 rw [h1, h2] at hus hnew
 go_enter Try.func53, Try.ntmps53
 go_wp2_with fail
 go_region_with (first
  | (go_at_call 63; refine (hus (by first | assumption | exact Bx.drew (by assumption))).mono ?_; rintro e w1 ⟨rfl, hk⟩; have hq := hk.2; rw [h1, h2] at hq; have q0 := cell_heap hq (o := 0) rfl; have q1 := cell_heap hq (o := 1) rfl; have q2 := cell_heap hq (o := 2) rfl; have q3 := cell_heap hq (o := 3) rfl; have hql := heap_lt hq)
  | (go_at_call 62; refine (had (by first | assumption | exact Bx.drew (by assumption))).mono ?_; rintro e w2 ⟨rfl, hf, hd⟩))
 all_goals
  go_wp2_with fail
  go_ret
  exact ⟨rfl, hf, hd⟩
set_option maxRecDepth 100000 in
theorem several_any {w : World} {base R m : Nat} {vs vu vf vc : Value} {s : RS} (h : Rd w base R m vs vu vf vc s) (hb : base ≤ w.heap.size) (hs : s.Fine) (x : It) (hw : x.wide = true) (hok : x.ok) (h1 : x.ty = 2) (h2 : x.tg = 2) :
  Calls Try.prog 55 #[.pointer (some ⟨R, 0, none⟩), itV x] w (Did base R m w (effS s x)) := by
 have hE : effS s x = if s.keeps = false ∨ usageS s x / 65536 ≠ s.kept / 65536 ∨ usageS s x < s.kept then (4, s) else addS { s with keeps := false } s.kept (usageS s x) := by simp [effS, h1, h2]
 rw [hE]
 clear hE
 have hu := usage_range hs hw hok
 have hkp := hs.kept
 have hus : ∀ {w'}, Bx w x w' → Calls Try.prog 63 #[.pointer (some ⟨R, 0, none⟩), itV x] w' fun e w'' => e = .returned (.int .u32 (usageS s x)) ∧ Bx w x w'' :=
  fun hk => (usage_any (h.kept hk.1) hs x hw hok).mono fun e w'' ⟨e1, e2⟩ => ⟨e1, hk.keep e2⟩
 have hnew := Bx.new w x
 generalize usageS s x = u at *
 unfold itV at hus ⊢
 rw [h1, h2] at hus hnew
 have hu' := hu
 have hkp' := hkp
 unfold u32k at hu hkp
 cases hkk : s.keeps with
 | false =>
  rw [if_pos (.inl rfl)]
  go_enter Try.func55, Try.ntmps55
  go_wp2_with (go_at_call 63; refine (hus (by assumption)).mono ?_; rintro e w1 ⟨rfl, hk⟩; have hr := h.kept hk.1; have c8 : w1.cell? ⟨R, 8, none⟩ = some (.int .u32 s.kept) := cell_heap hr.box (o := 8) rfl; have c9 : w1.cell? ⟨R, 9, none⟩ = some (.bool s.keeps) := cell_heap hr.box (o := 9) rfl; rw [hkk] at c9; have f9 := frozen_heap hr.box (o := 9); have hRl := heap_lt hr.box)
  go_ret
  exact ⟨rfl, Fr.kept hk.1 hb, fun e => by cases e⟩
 | true =>
  by_cases ca : u / 65536 = s.kept / 65536
  ·by_cases cb : u < s.kept
   ·rw [if_pos (.inr (.inr cb))]
    go_enter Try.func55, Try.ntmps55
    go_wp2_with (go_at_call 63; refine (hus (by assumption)).mono ?_; rintro e w1 ⟨rfl, hk⟩; have hr := h.kept hk.1; have c8 : w1.cell? ⟨R, 8, none⟩ = some (.int .u32 s.kept) := cell_heap hr.box (o := 8) rfl; have c9 : w1.cell? ⟨R, 9, none⟩ = some (.bool s.keeps) := cell_heap hr.box (o := 9) rfl; rw [hkk] at c9; have f9 := frozen_heap hr.box (o := 9); have hRl := heap_lt hr.box)
    go_ret
    exact ⟨rfl, Fr.kept hk.1 hb, fun e => by cases e⟩
   ·rw [if_neg (fun h => h.elim (fun h => by cases h) (fun h => h.elim (fun h => h ca) cb))]
    have cb' : s.kept ≤ u := by omega
    go_enter Try.func55, Try.ntmps55
    go_wp2_with (first
     | (go_at_call 63; refine (hus (by assumption)).mono ?_; rintro e w1 ⟨rfl, hk⟩; have hr := h.kept hk.1; have c8 : w1.cell? ⟨R, 8, none⟩ = some (.int .u32 s.kept) := cell_heap hr.box (o := 8) rfl; have c9 : w1.cell? ⟨R, 9, none⟩ = some (.bool s.keeps) := cell_heap hr.box (o := 9) rfl; rw [hkk] at c9; have f9 := frozen_heap hr.box (o := 9); have hRl := heap_lt hr.box)
     | (go_at_call 62; refine (add_any (hr.set 9 (.bool false) (s' := { s with keeps := false }) rfl rfl rfl rfl rfl) (by rw [World.size_setCell]; exact Nat.le_trans hb hk.1.size) hs.usages.1 _ _ hkp' hu' cb').mono ?_; rintro e w2 ⟨rfl, hf, hd⟩))
    go_ret
    exact ⟨rfl, ((Fr.kept hk.1 hb).trans (Fr.set 9 _)).trans hf, hd⟩
  ·rw [if_pos (.inr (.inl ca))]
   go_enter Try.func55, Try.ntmps55
   go_wp2_with (go_at_call 63; refine (hus (by assumption)).mono ?_; rintro e w1 ⟨rfl, hk⟩; have hr := h.kept hk.1; have c8 : w1.cell? ⟨R, 8, none⟩ = some (.int .u32 s.kept) := cell_heap hr.box (o := 8) rfl; have c9 : w1.cell? ⟨R, 9, none⟩ = some (.bool s.keeps) := cell_heap hr.box (o := 9) rfl; rw [hkk] at c9; have f9 := frozen_heap hr.box (o := 9); have hRl := heap_lt hr.box)
   go_ret
   exact ⟨rfl, Fr.kept hk.1 hb, fun e => by cases e⟩
set_option maxRecDepth 100000 in
theorem input_any {w : World} {base R m : Nat} {vs vu vf vc : Value} {s : RS} (h : Rd w base R m vs vu vf vc s) (hb : base ≤ w.heap.size) (hs : s.Fine) (x : It) (hw : x.wide = true) (hok : x.ok) (h1 : x.ty = 0) (h2 : x.tg = 8) :
  Calls Try.prog 39 #[.pointer (some ⟨R, 0, none⟩), itV x] w (Did base R m w (effS s x)) := by
 obtain ⟨d0, d1, _⟩ := data_lt hw hok
 have hE : effS s x = fieldS s 1 x := by simp [effS, h1, h2]
 rw [hE]
 clear hE
 have hf : ∀ w' : World, Kept w w' → Calls Try.prog 60 #[.pointer (some ⟨R, 0, none⟩), .int .u8 1, itV x] w' (Did base R m w' (fieldS s 1 x)) := fun w' hk => field_any (h.kept hk) (Nat.le_trans hb hk.size) hs 1 (by decide) x d0 d1
 generalize fieldS s 1 x = r at *
 unfold itV at hf ⊢
 rw [h1, h2] at hf
 have Hh := hide h
 clear h hs hw hok
 go_enter Try.func39, Try.ntmps39
 go_wp2_with (go_at_call 60; refine (hf _ (by go_grown)).mono ?_; rintro e w2 ⟨rfl, hfr, hd⟩)
 go_ret
 exact ⟨rfl, (Fr.kept (by go_grown) hb).trans hfr, hd⟩
set_option maxRecDepth 100000 in
theorem output_any {w : World} {base R m : Nat} {vs vu vf vc : Value} {s : RS} (h : Rd w base R m vs vu vf vc s) (hb : base ≤ w.heap.size) (hs : s.Fine) (x : It) (hw : x.wide = true) (hok : x.ok) (h1 : x.ty = 0) (h2 : x.tg = 9) :
  Calls Try.prog 40 #[.pointer (some ⟨R, 0, none⟩), itV x] w (Did base R m w (effS s x)) := by
 obtain ⟨d0, d1, _⟩ := data_lt hw hok
 have hE : effS s x = fieldS s 2 x := by simp [effS, h1, h2]
 rw [hE]
 clear hE
 have hf : ∀ w' : World, Kept w w' → Calls Try.prog 60 #[.pointer (some ⟨R, 0, none⟩), .int .u8 2, itV x] w' (Did base R m w' (fieldS s 2 x)) := fun w' hk => field_any (h.kept hk) (Nat.le_trans hb hk.size) hs 2 (by decide) x d0 d1
 generalize fieldS s 2 x = r at *
 unfold itV at hf ⊢
 rw [h1, h2] at hf
 have Hh := hide h
 clear h hs hw hok
 go_enter Try.func40, Try.ntmps40
 go_wp2_with (go_at_call 60; refine (hf _ (by go_grown)).mono ?_; rintro e w2 ⟨rfl, hfr, hd⟩)
 go_ret
 exact ⟨rfl, (Fr.kept (by go_grown) hb).trans hfr, hd⟩
set_option maxRecDepth 100000 in
theorem feature_any {w : World} {base R m : Nat} {vs vu vf vc : Value} {s : RS} (h : Rd w base R m vs vu vf vc s) (hb : base ≤ w.heap.size) (hs : s.Fine) (x : It) (hw : x.wide = true) (hok : x.ok) (h1 : x.ty = 0) (h2 : x.tg = 11) :
  Calls Try.prog 42 #[.pointer (some ⟨R, 0, none⟩), itV x] w (Did base R m w (effS s x)) := by
 obtain ⟨d0, d1, _⟩ := data_lt hw hok
 have hE : effS s x = fieldS s 3 x := by simp [effS, h1, h2]
 rw [hE]
 clear hE
 have hf : ∀ w' : World, Kept w w' → Calls Try.prog 60 #[.pointer (some ⟨R, 0, none⟩), .int .u8 3, itV x] w' (Did base R m w' (fieldS s 3 x)) := fun w' hk => field_any (h.kept hk) (Nat.le_trans hb hk.size) hs 3 (by decide) x d0 d1
 generalize fieldS s 3 x = r at *
 unfold itV at hf ⊢
 rw [h1, h2] at hf
 have Hh := hide h
 clear h hs hw hok
 go_enter Try.func42, Try.ntmps42
 go_wp2_with (go_at_call 60; refine (hf _ (by go_grown)).mono ?_; rintro e w2 ⟨rfl, hfr, hd⟩)
 go_ret
 exact ⟨rfl, (Fr.kept (by go_grown) hb).trans hfr, hd⟩
def fnOf (t g : Int) : Option FuncId :=
 if t = 0 ∧ g = 8 then some 39 else
 if t = 0 ∧ g = 9 then some 40 else
 if t = 0 ∧ g = 10 then some 41 else
 if t = 0 ∧ g = 11 then some 42 else
 if t = 0 ∧ g = 12 then some 43 else
 if t = 1 ∧ g = 0 then some 44 else
 if t = 1 ∧ g = 1 then some 45 else
 if t = 1 ∧ g = 2 then some 46 else
 if t = 1 ∧ g = 3 then some 47 else
 if t = 1 ∧ g = 4 then some 47 else
 if t = 1 ∧ g = 5 then some 47 else
 if t = 1 ∧ g = 6 then some 47 else
 if t = 1 ∧ g = 7 then some 48 else
 if t = 1 ∧ g = 8 then some 49 else
 if t = 1 ∧ g = 9 then some 50 else
 if t = 1 ∧ g = 10 then some 51 else
 if t = 1 ∧ g = 11 then some 52 else
 if t = 2 ∧ g = 0 then some 53 else
 if t = 2 ∧ g = 1 then some 54 else
 if t = 2 ∧ g = 2 then some 55 else
 none
theorem fnOf_cases {t g : Int} {f : FuncId} (h : fnOf t g = some f) : (t = 0 ∧ g = 8 ∧ f = 39) ∨ (t = 0 ∧ g = 9 ∧ f = 40) ∨ (t = 0 ∧ g = 10 ∧ f = 41) ∨ (t = 0 ∧ g = 11 ∧ f = 42) ∨ (t = 0 ∧ g = 12 ∧ f = 43) ∨ (t = 1 ∧ g = 0 ∧ f = 44) ∨ (t = 1 ∧ g = 1 ∧ f = 45) ∨ (t = 1 ∧ g = 2 ∧ f = 46) ∨ (t = 1 ∧ g = 3 ∧ f = 47) ∨ (t = 1 ∧ g = 4 ∧ f = 47) ∨ (t = 1 ∧ g = 5 ∧ f = 47) ∨ (t = 1 ∧ g = 6 ∧ f = 47) ∨ (t = 1 ∧ g = 7 ∧ f = 48) ∨ (t = 1 ∧ g = 8 ∧ f = 49) ∨ (t = 1 ∧ g = 9 ∧ f = 50) ∨ (t = 1 ∧ g = 10 ∧ f = 51) ∨ (t = 1 ∧ g = 11 ∧ f = 52) ∨ (t = 2 ∧ g = 0 ∧ f = 53) ∨ (t = 2 ∧ g = 1 ∧ f = 54) ∨ (t = 2 ∧ g = 2 ∧ f = 55) := by
 unfold fnOf at h
 by_cases c0 : t = 0 ∧ g = 8
 ·rw [if_pos c0] at h; obtain rfl := Option.some.inj h; obtain ⟨rfl, rfl⟩ := c0; simp
 rw [if_neg c0] at h
 by_cases c1 : t = 0 ∧ g = 9
 ·rw [if_pos c1] at h; obtain rfl := Option.some.inj h; obtain ⟨rfl, rfl⟩ := c1; simp
 rw [if_neg c1] at h
 by_cases c2 : t = 0 ∧ g = 10
 ·rw [if_pos c2] at h; obtain rfl := Option.some.inj h; obtain ⟨rfl, rfl⟩ := c2; simp
 rw [if_neg c2] at h
 by_cases c3 : t = 0 ∧ g = 11
 ·rw [if_pos c3] at h; obtain rfl := Option.some.inj h; obtain ⟨rfl, rfl⟩ := c3; simp
 rw [if_neg c3] at h
 by_cases c4 : t = 0 ∧ g = 12
 ·rw [if_pos c4] at h; obtain rfl := Option.some.inj h; obtain ⟨rfl, rfl⟩ := c4; simp
 rw [if_neg c4] at h
 by_cases c5 : t = 1 ∧ g = 0
 ·rw [if_pos c5] at h; obtain rfl := Option.some.inj h; obtain ⟨rfl, rfl⟩ := c5; simp
 rw [if_neg c5] at h
 by_cases c6 : t = 1 ∧ g = 1
 ·rw [if_pos c6] at h; obtain rfl := Option.some.inj h; obtain ⟨rfl, rfl⟩ := c6; simp
 rw [if_neg c6] at h
 by_cases c7 : t = 1 ∧ g = 2
 ·rw [if_pos c7] at h; obtain rfl := Option.some.inj h; obtain ⟨rfl, rfl⟩ := c7; simp
 rw [if_neg c7] at h
 by_cases c8 : t = 1 ∧ g = 3
 ·rw [if_pos c8] at h; obtain rfl := Option.some.inj h; obtain ⟨rfl, rfl⟩ := c8; simp
 rw [if_neg c8] at h
 by_cases c9 : t = 1 ∧ g = 4
 ·rw [if_pos c9] at h; obtain rfl := Option.some.inj h; obtain ⟨rfl, rfl⟩ := c9; simp
 rw [if_neg c9] at h
 by_cases c10 : t = 1 ∧ g = 5
 ·rw [if_pos c10] at h; obtain rfl := Option.some.inj h; obtain ⟨rfl, rfl⟩ := c10; simp
 rw [if_neg c10] at h
 by_cases c11 : t = 1 ∧ g = 6
 ·rw [if_pos c11] at h; obtain rfl := Option.some.inj h; obtain ⟨rfl, rfl⟩ := c11; simp
 rw [if_neg c11] at h
 by_cases c12 : t = 1 ∧ g = 7
 ·rw [if_pos c12] at h; obtain rfl := Option.some.inj h; obtain ⟨rfl, rfl⟩ := c12; simp
 rw [if_neg c12] at h
 by_cases c13 : t = 1 ∧ g = 8
 ·rw [if_pos c13] at h; obtain rfl := Option.some.inj h; obtain ⟨rfl, rfl⟩ := c13; simp
 rw [if_neg c13] at h
 by_cases c14 : t = 1 ∧ g = 9
 ·rw [if_pos c14] at h; obtain rfl := Option.some.inj h; obtain ⟨rfl, rfl⟩ := c14; simp
 rw [if_neg c14] at h
 by_cases c15 : t = 1 ∧ g = 10
 ·rw [if_pos c15] at h; obtain rfl := Option.some.inj h; obtain ⟨rfl, rfl⟩ := c15; simp
 rw [if_neg c15] at h
 by_cases c16 : t = 1 ∧ g = 11
 ·rw [if_pos c16] at h; obtain rfl := Option.some.inj h; obtain ⟨rfl, rfl⟩ := c16; simp
 rw [if_neg c16] at h
 by_cases c17 : t = 2 ∧ g = 0
 ·rw [if_pos c17] at h; obtain rfl := Option.some.inj h; obtain ⟨rfl, rfl⟩ := c17; simp
 rw [if_neg c17] at h
 by_cases c18 : t = 2 ∧ g = 1
 ·rw [if_pos c18] at h; obtain rfl := Option.some.inj h; obtain ⟨rfl, rfl⟩ := c18; simp
 rw [if_neg c18] at h
 by_cases c19 : t = 2 ∧ g = 2
 ·rw [if_pos c19] at h; obtain rfl := Option.some.inj h; obtain ⟨rfl, rfl⟩ := c19; simp
 rw [if_neg c19] at h
 cases h
theorem eff_any {w : World} {base R m : Nat} {vs vu vf vc : Value} {s : RS} (h : Rd w base R m vs vu vf vc s) (hb : base ≤ w.heap.size) (hs : s.Fine) (x : It) (hw : x.wide = true) (hok : x.ok) {f : FuncId} (hf : fnOf x.ty x.tg = some f) :
  Calls Try.prog f #[.pointer (some ⟨R, 0, none⟩), itV x] w (Did base R m w (effS s x)) := by
 rcases fnOf_cases hf with ⟨h1, h2, rfl⟩ | ⟨h1, h2, rfl⟩ | ⟨h1, h2, rfl⟩ | ⟨h1, h2, rfl⟩ | ⟨h1, h2, rfl⟩ | ⟨h1, h2, rfl⟩ | ⟨h1, h2, rfl⟩ | ⟨h1, h2, rfl⟩ | ⟨h1, h2, rfl⟩ | ⟨h1, h2, rfl⟩ | ⟨h1, h2, rfl⟩ | ⟨h1, h2, rfl⟩ | ⟨h1, h2, rfl⟩ | ⟨h1, h2, rfl⟩ | ⟨h1, h2, rfl⟩ | ⟨h1, h2, rfl⟩ | ⟨h1, h2, rfl⟩ | ⟨h1, h2, rfl⟩ | ⟨h1, h2, rfl⟩ | ⟨h1, h2, rfl⟩
 ·exact input_any h hb hs x hw hok h1 h2
 ·exact output_any h hb hs x hw hok h1 h2
 ·exact begin_any h hb hs x hw hok h1 h2
 ·exact feature_any h hb hs x hw hok h1 h2
 ·exact end_any h hb hs x h1 h2
 ·exact setPage_any h hb x h1 h2
 ·exact setLo_any h hb x hw hok h1 h2
 ·exact setHi_any h hb x hw hok h1 h2
 ·exact nothing_any h hb x h1 (by omega)
 ·exact nothing_any h hb x h1 (by omega)
 ·exact nothing_any h hb x h1 (by omega)
 ·exact nothing_any h hb x h1 (by omega)
 ·exact setSize_any h hb x h1 h2
 ·exact setReport_any h hb x h1 h2
 ·exact setCount_any h hb x h1 h2
 ·exact push_any h hb hs x h1 h2
 ·exact pop_any h hb hs x h1 h2
 ·exact one_any h hb hs x hw hok h1 h2
 ·exact keep_any h hb hs x hw hok h1 h2
 ·exact several_any h hb hs x hw hok h1 h2
theorem eff_none {s : RS} {x : It} (hf : fnOf x.ty x.tg = none) : effS s x = (4, s) := by
 have H : ∀ a b : Int, (fnOf a b).isSome = true → ¬ (x.ty = a ∧ x.tg = b) := by
  rintro a b h1 ⟨rfl, rfl⟩
  rw [hf] at h1; cases h1
 unfold effS
 by_cases t0 : x.ty = 0
 ·rw [if_pos t0, if_neg (fun e => H 0 8 rfl ⟨t0, e⟩), if_neg (fun e => H 0 9 rfl ⟨t0, e⟩), if_neg (fun e => H 0 11 rfl ⟨t0, e⟩), if_neg (fun e => H 0 10 rfl ⟨t0, e⟩), if_neg (fun e => H 0 12 rfl ⟨t0, e⟩)]
 rw [if_neg t0]
 by_cases t1 : x.ty = 1
 ·rw [if_pos t1, if_neg (fun e => H 1 0 rfl ⟨t1, e⟩), if_neg (fun e => H 1 1 rfl ⟨t1, e⟩), if_neg (fun e => H 1 2 rfl ⟨t1, e⟩), if_neg (fun e => e.elim (fun e => H 1 3 rfl ⟨t1, e⟩) (fun e => e.elim (fun e => H 1 4 rfl ⟨t1, e⟩) (fun e => e.elim (fun e => H 1 5 rfl ⟨t1, e⟩) (fun e => H 1 6 rfl ⟨t1, e⟩)))), if_neg (fun e => H 1 7 rfl ⟨t1, e⟩), if_neg (fun e => H 1 8 rfl ⟨t1, e⟩), if_neg (fun e => H 1 9 rfl ⟨t1, e⟩), if_neg (fun e => H 1 10 rfl ⟨t1, e⟩), if_neg (fun e => H 1 11 rfl ⟨t1, e⟩)]
 rw [if_neg t1]
 by_cases t2 : x.ty = 2
 ·rw [if_pos t2, if_neg (fun e => H 2 0 rfl ⟨t2, e⟩), if_neg (fun e => H 2 1 rfl ⟨t2, e⟩), if_neg (fun e => H 2 2 rfl ⟨t2, e⟩)]
 rw [if_neg t2]
theorem fn_enters {t g : Int} {f : FuncId} (h : fnOf t g = some f) : ∀ args W, (callFunc f args).run Try.prog W = .ok (.enter f args) W := by
 rcases fnOf_cases h with ⟨_, _, rfl⟩ | ⟨_, _, rfl⟩ | ⟨_, _, rfl⟩ | ⟨_, _, rfl⟩ | ⟨_, _, rfl⟩ | ⟨_, _, rfl⟩ | ⟨_, _, rfl⟩ | ⟨_, _, rfl⟩ | ⟨_, _, rfl⟩ | ⟨_, _, rfl⟩ | ⟨_, _, rfl⟩ | ⟨_, _, rfl⟩ | ⟨_, _, rfl⟩ | ⟨_, _, rfl⟩ | ⟨_, _, rfl⟩ | ⟨_, _, rfl⟩ | ⟨_, _, rfl⟩ | ⟨_, _, rfl⟩ | ⟨_, _, rfl⟩ | ⟨_, _, rfl⟩
 ·exact enters_of Try.func39 (by kernel_rfl) rfl
 ·exact enters_of Try.func40 (by kernel_rfl) rfl
 ·exact enters_of Try.func41 (by kernel_rfl) rfl
 ·exact enters_of Try.func42 (by kernel_rfl) rfl
 ·exact enters_of Try.func43 (by kernel_rfl) rfl
 ·exact enters_of Try.func44 (by kernel_rfl) rfl
 ·exact enters_of Try.func45 (by kernel_rfl) rfl
 ·exact enters_of Try.func46 (by kernel_rfl) rfl
 ·exact enters_of Try.func47 (by kernel_rfl) rfl
 ·exact enters_of Try.func47 (by kernel_rfl) rfl
 ·exact enters_of Try.func47 (by kernel_rfl) rfl
 ·exact enters_of Try.func47 (by kernel_rfl) rfl
 ·exact enters_of Try.func48 (by kernel_rfl) rfl
 ·exact enters_of Try.func49 (by kernel_rfl) rfl
 ·exact enters_of Try.func50 (by kernel_rfl) rfl
 ·exact enters_of Try.func51 (by kernel_rfl) rfl
 ·exact enters_of Try.func52 (by kernel_rfl) rfl
 ·exact enters_of Try.func53 (by kernel_rfl) rfl
 ·exact enters_of Try.func54 (by kernel_rfl) rfl
 ·exact enters_of Try.func55 (by kernel_rfl) rfl
end Go.Proofs.Ytegdigfcgeoboaa
