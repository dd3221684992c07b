/- The reader's field: there are too many fields. -/
import Derived.Test.YtegdigfcgeoboaaChecked
import Derived.Deep.RegionHeld3
import Derived.Deep.DrawnRows
import Derived.Deep.DeepCutAuto
import Derived.Deep.LoopGhost
import Derived.Outline
import Derived.Handy
import Derived.OwnWalk
import Derived.BigQuiet
import Derived.Test.YtegdigfcgeoboaaN6
set_option linter.unusedVariables false
set_option linter.unusedSimpArgs false
set_option linter.unusedSectionVars false
namespace Go.Proofs.Ytegdigfcgeoboaa
open Go.RowKit Go.Maps
attribute [local go_sem ↓] Go.wp_at_zero Go.wp_at_succ

set_option maxRecDepth 100000 in
set_option maxHeartbeats 4000000 in
theorem field_full {w : World} {base R m : Nat} {vs vu vf vc : Value} {s : RS} (h : Rd w base R m vs vu vf vc s) (hb : base ≤ w.heap.size) (hs : s.Fine) (k : Int) (hk : 1 ≤ k ∧ k ≤ 3) (x : It) (c : ¬ s.opn < 0) (c1 : 1 ≤ s.g.size ∧ s.g.size ≤ 32) (c2 : 1 ≤ s.g.count ∧ s.g.count ≤ 256) (c3 : ¬ 4096 < bitsS s.fields k s.g.report + s.g.size * s.g.count) (c4 : 256 ≤ s.fields.length) :
    Calls Try.prog 60 #[.pointer (some ⟨R, 0, none⟩), .int .u8 k, itV x] w (Did base R m w (fieldS s k x)) := by
  have hE : fieldS s k x = (3, s) := by
    have hrp := hs.report
    unfold fieldS
    rw [if_neg c, show s.g.report % 256 = s.g.report by omega, if_pos (.inr (.inr (.inr (.inr (.inr c4)))))]
  rw [hE]
  clear hE
  obtain ⟨d1, d2⟩ := c1
  obtain ⟨d3, d4⟩ := c2
  have C3 := hide c3
  clear c3
  have d7 : (256 : Int) ≤ (s.fields.length : Int) := by omega
  have c' : 0 ≤ s.opn := by omega
  have hRl := heap_lt h.box
  have hml : m < w.heap.size := Nat.lt_of_lt_of_le h.low.2.1 hb
  have hrp := hs.report
  have hwr : IntKind.u8.wrap s.g.report = s.g.report := by rw [IntKind.wrap_u8]; omega
  have c5 : w.cell? ⟨R, 5, none⟩ = some (.int .u32 s.g.report) := cell_heap h.box (o := 5) rfl
  have c10 : w.cell? ⟨R, 10, none⟩ = some (.int .i64 s.opn) := cell_heap h.box (o := 10) rfl
  unfold itV
  go_enter Try.func60, Try.ntmps60
  go_upto_region 4 with (fail)
  refine wp_at (fun W => Rd W base R m vs vu vf vc s ∧ W.heap[w.heap.size + 1]? = some (.cells #[.int .u8 k, .int .u8 s.g.report] 90 (0, 0)) ∧ W.heap[w.heap.size]? = some (.cells #[.int .u8 x.ty, .int .u8 x.tg, .int .i64 x.size, .int .u32 x.data] 29 (0, 0)) ∧ Kept w W ∧ W.heap.size = w.heap.size + 2) ⟨h.kept (by go_grown), heap_at _ (by simp), heap_past (heap_at _ rfl), by go_grown, by simp⟩ (fun W hW => ?_)
  obtain ⟨hr, hb1, hb2, hkW, hz⟩ := hW
  clear c5 c10
  obtain ⟨B, hB⟩ : ∃ B, bitsS s.fields k s.g.report = B := ⟨_, rfl⟩
  obtain ⟨P, hP⟩ : ∃ P, s.g.size * s.g.count = P := ⟨_, rfl⟩
  have hlk : ∀ n, (Instr.lookup 81 (.map (some m)) (.agg #[.int .u8 k, .int .u8 s.g.report]) false).run Try.prog (W.drewN n) = .ok (.int .i64 B) (W.drewN n) := fun n => by rw [← hB]; exact hr.look (w' := W.drewN n) rfl hk (by unfold u8k; omega)
  have hb0 := hs.bits k s.g.report
  rw [hB] at hb0
  have hP1 : 1 ≤ P ∧ P ≤ 8192 := by
    rw [← hP]
    have h1 : s.g.size * s.g.count ≤ 32 * s.g.count := Int.mul_le_mul_of_nonneg_right (by omega) (by omega)
    have h2 : 1 * s.g.count ≤ s.g.size * s.g.count := Int.mul_le_mul_of_nonneg_right (by omega) (by omega)
    omega
  obtain ⟨hP1, hP2⟩ := hP1
  obtain ⟨hB1, hB2⟩ := hb0
  have hw1 : IntKind.u32.wrap (s.g.size * s.g.count) = P := by rw [hP, IntKind.wrap_u32]; omega
  have hw2 : IntKind.i64.wrap P = P := by rw [IntKind.wrap_i64]; omega
  have hw3 : IntKind.i64.wrap (B + P) = B + P := by rw [IntKind.wrap_i64]; omega
  have c3 : W.cell? ⟨R, 3, none⟩ = some (.int .u32 s.g.size) := cell_heap hr.box (o := 3) rfl
  have c4 : W.cell? ⟨R, 4, none⟩ = some (.int .u32 s.g.count) := cell_heap hr.box (o := 4) rfl
  have c5 : W.cell? ⟨R, 5, none⟩ = some (.int .u32 s.g.report) := cell_heap hr.box (o := 5) rfl
  have c11 : W.cell? ⟨R, 11, none⟩ = some (.map (some m)) := cell_heap hr.box (o := 11) rfl
  have c12 : W.cell? ⟨R, 12, none⟩ = some vf := cell_heap hr.box (o := 12) rfl
  have k0 : W.cell? ⟨w.heap.size + 1, 0, none⟩ = some (.int .u8 k) := cell_heap hb1 (o := 0) rfl
  have k1 : W.cell? ⟨w.heap.size + 1, 1, none⟩ = some (.int .u8 s.g.report) := cell_heap hb1 (o := 1) rfl
  have hHlk := hide hB
  have hHP := hide hP
  clear hB hP
  obtain ⟨F, cf, rfl, hF1, hF2⟩ := hr.fs.isSlice
  have d5 : B + P ≤ 4096 := by have := C3.out; rw [hHlk.out, hHP.out] at this; omega
  have Hkw := hide hkW
  clear hkW hz hb1 hb2 hr hrp hs hk hml
  go_quiet (fail)
  go_wp2_with fail
  go_ret
  exact ⟨rfl, Fr.kept (below_drewN Hkw.out _) hb, fun e => by cases e⟩
end Go.Proofs.Ytegdigfcgeoboaa
