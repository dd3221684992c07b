/- apart: fields that lie one behind the other are told apart. -/
import Derived.Test.YtegdigfcgeoboaaChecked
import Derived.Deep.RegionHeld3
import Derived.Deep.DrawnRows
import Derived.Deep.DeepCutAuto
import Derived.Deep.LoopGhost
import Derived.Outline
import Derived.Handy
import Derived.OwnWalk
import Derived.BigQuiet
import Derived.Test.YtegdigfcgeoboaaN25
import Derived.Test.YtegdigfcgeoboaaN11
set_option linter.unusedVariables false
set_option linter.unusedSimpArgs false
set_option linter.unusedSectionVars false
namespace Go.Proofs.Ytegdigfcgeoboaa
open Go.RowKit
attribute [local go_sem ↓] Go.wp_at_zero Go.wp_at_succ

set_option maxRecDepth 100000 in
set_option maxHeartbeats 8000000 in
theorem apart_any (A C : Option Addr) (n c m d : Nat) (nb : Bool) (l : List Fd) (w : World) (hs : SizesOk l) (hp : PosOk l) (hl : Sl fdT w (low w.heap.size) A n l) :
    Calls Try.prog 16 #[.agg #[.slice A n c, .slice C m d, .bool nb]] w fun e w' => e = .returned (.bool true) ∧ Kept w w' := by
  have hn := hl.1
  have hn2 := hs.1
  have Hs := hide hs
  have Hp := hide hp
  have Hn := hide hn
  have hn3 : n ≤ 256 := by omega
  clear hs hp hn hn2
  go_enter Try.func16, Try.ntmps16
  go_upto_region 2 with (fail)
  refine wp_at (fun W => W.heap[w.heap.size]? = some (.cells #[.slice A n c, .slice C m d, .bool nb] 40 (0, 0)) ∧ Kept w W) ⟨heap_at _ rfl, by go_grown⟩ (fun W hW => ?_)
  obtain ⟨hB, hkW⟩ := hW
  have HB := hide hB
  have HkW := hide hkW
  clear hB hkW
  go_wp2_with fail
  go_loopg [3] n (fun g s3 wr => ∃ i : Nat, i + g = n ∧ s3 = .int .i64 i ∧ Kept W wr)
  case atStart => exact ⟨0, by omega, rfl, Below.refl _ _⟩
  case round =>
    obtain ⟨i, hi, rfl, hk⟩ := hrel
    have Hi := hide hi
    have b1 := heap_kept hk HB.out
    have l1 := heap_lt b1
    have p0 : wr.cell? ⟨w.heap.size, 0, none⟩ = some (.slice A n c) := cell_heap b1 (o := 0) rfl
    have p1 : wr.cell? ⟨w.heap.size, 1, none⟩ = some (.slice C m d) := cell_heap b1 (o := 1) rfl
    have p2 : wr.cell? ⟨w.heap.size, 2, none⟩ = some (.bool nb) := cell_heap b1 (o := 2) rfl
    clear hi b1
    by_cases hlt : i < n
    · obtain ⟨f, b, off, cs, hf, rfl, hbb, ⟨A', rfl, hul, _⟩, hcs⟩ := (hl.kept (HkW.out.trans' hk)).at hlt
      have xc : ∀ (j : Nat) v, (f.cells A')[j]? = some v → wr.cell? ⟨b, off + i * 13 + j, none⟩ = some v := fun j v h => hcs j v h
      have x0 : wr.cell? ⟨b, off + i * 13, none⟩ = _ := xc 0 _ rfl
      have x1 := xc 1 _ rfl
      have x2 := xc 2 _ rfl
      have x3 := xc 3 _ rfl
      have x4 := xc 4 _ rfl
      have x5 := xc 5 _ rfl
      have x6 := xc 6 _ rfl
      have x7 := xc 7 _ rfl
      have x8 := xc 8 _ rfl
      have x9 := xc 9 _ rfl
      have x10 := xc 10 _ rfl
      have x11 := xc 11 _ rfl
      have x12 := xc 12 _ rfl
      clear hcs xc
      have hbl : b < wr.heap.size := hbb
      have hi0 : (0 : Int) ≤ (i : Int) := by omega
      have hlt' : (i : Int) < (n : Int) := by omega
      have Hf := hide hf
      obtain ⟨a1, a2, a3, a4⟩ := Hs.out.2 f (List.mem_of_getElem? hf)
      have hpin := pos_in Hs.out Hp.out hf
      have hbd := bits_le l f.kind f.report Hs.out.2
      have hlen : (l.length : Int) ≤ 256 := by have := Hn.out; omega
      have hany : l.any (fun g => g.kind == f.kind && g.report == f.report) = true := List.any_eq_true.2 ⟨f, List.mem_of_getElem? hf, by simp⟩
      have hL : lenS nb l f.kind f.report = (bitsS l f.kind f.report + 7) / 8 + (if nb then 1 else 0) := by
        unfold lenS; rw [hany, Bool.true_and]
      obtain ⟨B, hBB⟩ : ∃ B, bitsS l f.kind f.report = B := ⟨_, rfl⟩
      rw [hBB] at hpin hbd hL
      have hb1 := hbd.1
      have hb2 : B ≤ 2097152 := by have := hbd.2; omega
      have hq1 := hpin.1
      have hq2 := hpin.2
      have hm1 : f.size * f.count ≤ 32 * f.count := Int.mul_le_mul_of_nonneg_right (by omega) (by omega)
      have hm2 : 1 * f.count ≤ f.size * f.count := Int.mul_le_mul_of_nonneg_right (by omega) (by omega)
      have hw1 : IntKind.i64.wrap (f.size * f.count) = f.size * f.count := by rw [IntKind.wrap_i64]; omega
      have hw2 : IntKind.i64.wrap (f.pos + f.size * f.count) = f.pos + f.size * f.count := by rw [IntKind.wrap_i64]; omega
      obtain ⟨L, hLL⟩ : ∃ L, lenS nb l f.kind f.report = L := ⟨_, rfl⟩
      have hL2 : 8 * L = 8 * ((B + 7) / 8) + (if nb then 8 else 0) := by rw [← hLL, hL]; split <;> omega
      have hL3 : 0 ≤ L ∧ L ≤ 300000 := by rw [← hLL, hL]; split <;> omega
      have hw3 : IntKind.i64.wrap (8 * L) = 8 * L := by rw [IntKind.wrap_i64]; omega
      have hw4 : IntKind.i64.wrap (8 * L - 8) = 8 * L - 8 := by rw [IntKind.wrap_i64]; omega
      have g1 : decide (f.pos < 0) = false := decide_eq_false (by omega)
      have HLL := hide hLL
      have HL2 := hide hL2
      clear hf hpin hbd hany hL hBB hLL hlen hL2
      go_upto_region 5 with (fail)
      refine wp_at (fun W2 => W2.heap[wr.heap.size]? = some (.cells #[.int .u8 f.kind, .int .u8 f.report, .int .i64 f.parent, .slice A' f.usages.length f.usages.length, .int .i64 f.lo, .int .i64 f.hi, .int .i64 f.size, .int .i64 f.count, .int .i64 f.pos, .bool f.const, .bool f.array, .bool f.signed, .bool f.rel] 59 (0, 0)) ∧ Kept wr W2) ⟨heap_at _ rfl, by go_grown⟩ (fun W2 hW2 => ?_)
      obtain ⟨hB2, hk2⟩ := hW2
      have HB2 := hide hB2
      have b1 := heap_kept (hk.trans' hk2) HB.out
      have l1' := heap_lt b1
      have p0' : W2.cell? ⟨w.heap.size, 0, none⟩ = some (.slice (some ⟨b, off, none⟩) n c) := cell_heap b1 (o := 0) rfl
      have p1' : W2.cell? ⟨w.heap.size, 1, none⟩ = some (.slice C m d) := cell_heap b1 (o := 1) rfl
      have p2' : W2.cell? ⟨w.heap.size, 2, none⟩ = some (.bool nb) := cell_heap b1 (o := 2) rfl
      have f0 : W2.cell? ⟨wr.heap.size, 0, none⟩ = some (.int .u8 f.kind) := cell_heap hB2 (o := 0) rfl
      have f1 : W2.cell? ⟨wr.heap.size, 1, none⟩ = some (.int .u8 f.report) := cell_heap hB2 (o := 1) rfl
      have l2 := heap_lt hB2
      have hlen := length21 (some ⟨b, off, none⟩) C n c m d nb l f.kind f.report W2 Hs.out ((hl.kept (HkW.out.trans' hk)).kept hk2)
      rw [HLL.out] at hlen
      have Hlen := hide hlen
      clear hlen hB2 b1 x0 x1 x2 x3 x4 x5 x6 x7 x8 x9 x10 x11 x12 p0 p1 p2
      go_upto_region 6 with (go_at_call 21; refine Hlen.out.mono ?_; rintro e w3 ⟨rfl, hk3⟩)
      refine wp_at (fun W3 => Kept W2 W3) (by first | assumption | exact hk3) (fun W3 hk3 => ?_)
      have hB3 := heap_kept hk3 HB2.out
      have b1 := heap_kept ((hk.trans' hk2).trans' hk3) HB.out
      have l1' := heap_lt b1
      have l2 := heap_lt hB3
      have p0' : W3.cell? ⟨w.heap.size, 0, none⟩ = some (.slice (some ⟨b, off, none⟩) n c) := cell_heap b1 (o := 0) rfl
      have p2' : W3.cell? ⟨w.heap.size, 2, none⟩ = some (.bool nb) := cell_heap b1 (o := 2) rfl
      have f6 : W3.cell? ⟨wr.heap.size, 6, none⟩ = some (.int .i64 f.size) := cell_heap hB3 (o := 6) rfl
      have f7 : W3.cell? ⟨wr.heap.size, 7, none⟩ = some (.int .i64 f.count) := cell_heap hB3 (o := 7) rfl
      have f8 : W3.cell? ⟨wr.heap.size, 8, none⟩ = some (.int .i64 f.pos) := cell_heap hB3 (o := 8) rfl
      cases nb with
      | true =>
        have g2 : decide (8 * L - 8 < f.pos + f.size * f.count) = false := decide_eq_false (by have h2 := HL2.out; simp at h2; omega)
        have hwi : IntKind.i64.wrap ((i : Int) + 1) = ((i + 1 : Nat) : Int) := by rw [IntKind.wrap_i64]; omega
        clear hL3 hq2
        go_wp2_with fail
        obtain ⟨wo, rfl⟩ : ∃ wo, wo = wr := ⟨_, rfl⟩
        obtain ⟨go, rfl⟩ : ∃ go, go = gk := ⟨_, rfl⟩
        have HB3 := hide hB3
        clear hB3 b1 p0' p2' l1' l2 f6 f7 f8 f0 f1
        go_loopg [6] i (fun g s6 wr => ∃ j : Nat, j + g = i ∧ s6 = .int .i64 j ∧ Kept W3 wr)
        case atStart => exact ⟨0, by omega, rfl, Below.refl _ _⟩
        case round =>
          obtain ⟨j, hj, rfl, hkj⟩ := hrel
          have Hj := hide hj
          have hkall := ((hk.trans' hk2).trans' hk3).trans' hkj
          have b1 := heap_kept hkall HB.out
          have bf := heap_kept hkj HB3.out
          have l1' := heap_lt b1
          have l2 := heap_lt bf
          have p0' : wr.cell? ⟨w.heap.size, 0, none⟩ = some (.slice (some ⟨b, off, none⟩) n c) := cell_heap b1 (o := 0) rfl
          clear hj
          by_cases hlj : j < i
          · obtain ⟨g, b2, off2, cs2, hg, he, hbb2, ⟨A2, rfl, hul2, _⟩, hcs⟩ := (hl.kept (HkW.out.trans' hkall)).at (show j < n by omega)
            injection he with he
            injection he with e1 e2
            subst e1 e2
            have yc : ∀ (o : Nat) v, (g.cells A2)[o]? = some v → wr.cell? ⟨b, off + j * 13 + o, none⟩ = some v := fun o v h => hcs o v h
            have y0 : wr.cell? ⟨b, off + j * 13, none⟩ = _ := yc 0 _ rfl
            have y1 := yc 1 _ rfl
            have y2 := yc 2 _ rfl
            have y3 := yc 3 _ rfl
            have y4 := yc 4 _ rfl
            have y5 := yc 5 _ rfl
            have y6 := yc 6 _ rfl
            have y7 := yc 7 _ rfl
            have y8 := yc 8 _ rfl
            have y9 := yc 9 _ rfl
            have y10 := yc 10 _ rfl
            have y11 := yc 11 _ rfl
            have y12 := yc 12 _ rfl
            clear hcs yc
            have hbl2 : b < wr.heap.size := hbb2
            have hj0 : (0 : Int) ≤ (j : Int) := by omega
            have hlj' : (j : Int) < (i : Int) := by omega
            have hljn : (j : Int) < (n : Int) := by omega
            have Hg := hide hg
            obtain ⟨a1', a2', a3', a4'⟩ := Hs.out.2 g (List.mem_of_getElem? hg)
            have hpin := pos_in Hs.out Hp.out hg
            have hbd := bits_le l g.kind g.report Hs.out.2
            have hlen : (l.length : Int) ≤ 256 := by have := Hn.out; omega
            have hm1' : g.size * g.count ≤ 32 * g.count := Int.mul_le_mul_of_nonneg_right (by omega) (by omega)
            have hm2' : 1 * g.count ≤ g.size * g.count := Int.mul_le_mul_of_nonneg_right (by omega) (by omega)
            have hw5 : IntKind.i64.wrap (g.size * g.count) = g.size * g.count := by rw [IntKind.wrap_i64]; omega
            have hw6 : IntKind.i64.wrap (g.pos + g.size * g.count) = g.pos + g.size * g.count := by rw [IntKind.wrap_i64]; omega
            have Hbf := hide bf
            have Hb1 := hide b1
            clear hg hpin hbd hlen bf b1
            go_upto_region 14 with (fail)
            refine wp_at (fun W4 => W4.heap[wr.heap.size]? = some (.cells #[.int .u8 g.kind, .int .u8 g.report, .int .i64 g.parent, .slice A2 g.usages.length g.usages.length, .int .i64 g.lo, .int .i64 g.hi, .int .i64 g.size, .int .i64 g.count, .int .i64 g.pos, .bool g.const, .bool g.array, .bool g.signed, .bool g.rel] 59 (0, 0)) ∧ Kept wr W4) ⟨heap_at _ rfl, by go_grown⟩ (fun W4 hW4 => ?_)
            obtain ⟨hB4, hk4⟩ := hW4
            have bf := heap_kept hk4 Hbf.out
            have l3 := heap_lt hB4
            have l4 := heap_lt bf
            have f0 : W4.cell? ⟨wo.heap.size, 0, none⟩ = some (.int .u8 f.kind) := cell_heap bf (o := 0) rfl
            have f1 : W4.cell? ⟨wo.heap.size, 1, none⟩ = some (.int .u8 f.report) := cell_heap bf (o := 1) rfl
            have f6 : W4.cell? ⟨wo.heap.size, 6, none⟩ = some (.int .i64 f.size) := cell_heap bf (o := 6) rfl
            have f7 : W4.cell? ⟨wo.heap.size, 7, none⟩ = some (.int .i64 f.count) := cell_heap bf (o := 7) rfl
            have f8 : W4.cell? ⟨wo.heap.size, 8, none⟩ = some (.int .i64 f.pos) := cell_heap bf (o := 8) rfl
            have g0 : W4.cell? ⟨wr.heap.size, 0, none⟩ = some (.int .u8 g.kind) := cell_heap hB4 (o := 0) rfl
            have g1 : W4.cell? ⟨wr.heap.size, 1, none⟩ = some (.int .u8 g.report) := cell_heap hB4 (o := 1) rfl
            have g6 : W4.cell? ⟨wr.heap.size, 6, none⟩ = some (.int .i64 g.size) := cell_heap hB4 (o := 6) rfl
            have g7 : W4.cell? ⟨wr.heap.size, 7, none⟩ = some (.int .i64 g.count) := cell_heap hB4 (o := 7) rfl
            have g8 : W4.cell? ⟨wr.heap.size, 8, none⟩ = some (.int .i64 g.pos) := cell_heap hB4 (o := 8) rfl
            clear bf hB4 y0 y1 y2 y3 y4 y5 y6 y7 y8 y9 y10 y11 y12 p0'
            by_cases k1 : g.kind = f.kind
            · by_cases k2 : g.report = f.report
              · by_cases k3 : g.pos < f.pos + f.size * f.count
                · have d1 : (g.kind == f.kind) = true := by rw [beq_iff_eq]; exact k1
                  have d2 : (g.report == f.report) = true := by rw [beq_iff_eq]; exact k2
                  have d3 : decide (g.pos < f.pos + f.size * f.count) = true := decide_eq_true k3
                  have d4 : decide (f.pos < g.pos + g.size * g.count) = false := decide_eq_false (by have := pos_apart Hs.out Hp.out Hf.out Hg.out hlj k1 k2; omega)
                  try clear k3
                  try clear k2
                  try clear k1
                  go_wp2_with fail
                  go_roundg (gk - 1)
                  case measure => have := Hj.out; omega
                  case rel => exact ⟨j + 1, by have := Hj.out; omega, by go_num, hkj.trans' hk4⟩
                · have d1 : (g.kind == f.kind) = true := by rw [beq_iff_eq]; exact k1
                  have d2 : (g.report == f.report) = true := by rw [beq_iff_eq]; exact k2
                  have d3 : decide (g.pos < f.pos + f.size * f.count) = false := decide_eq_false k3
                  try clear k3
                  try clear k2
                  try clear k1
                  go_wp2_with fail
                  go_roundg (gk - 1)
                  case measure => have := Hj.out; omega
                  case rel => exact ⟨j + 1, by have := Hj.out; omega, by go_num, hkj.trans' hk4⟩
              · have d1 : (g.kind == f.kind) = true := by rw [beq_iff_eq]; exact k1
                have d2 : (g.report == f.report) = false := beq_false_of_ne k2
                try clear k3
                try clear k2
                try clear k1
                go_wp2_with fail
                go_roundg (gk - 1)
                case measure => have := Hj.out; omega
                case rel => exact ⟨j + 1, by have := Hj.out; omega, by go_num, hkj.trans' hk4⟩
            · have d1 : (g.kind == f.kind) = false := beq_false_of_ne k1
              try clear k3
              try clear k2
              try clear k1
              go_wp2_with fail
              go_roundg (gk - 1)
              case measure => have := Hj.out; omega
              case rel => exact ⟨j + 1, by have := Hj.out; omega, by go_num, hkj.trans' hk4⟩
          · have hge : (i : Int) ≤ (j : Int) := by omega
            go_wp2_with fail
            go_roundg (go - 1)
            case measure => have := Hi.out; omega
            case rel => exact ⟨i + 1, by have := Hi.out; omega, rfl, hkall⟩
      | false =>
        have g2 : decide (8 * L < f.pos + f.size * f.count) = false := decide_eq_false (by have h2 := HL2.out; simp at h2; omega)
        have hwi : IntKind.i64.wrap ((i : Int) + 1) = ((i + 1 : Nat) : Int) := by rw [IntKind.wrap_i64]; omega
        clear hL3 hq2
        go_wp2_with fail
        obtain ⟨wo, rfl⟩ : ∃ wo, wo = wr := ⟨_, rfl⟩
        obtain ⟨go, rfl⟩ : ∃ go, go = gk := ⟨_, rfl⟩
        have HB3 := hide hB3
        clear hB3 b1 p0' p2' l1' l2 f6 f7 f8 f0 f1
        go_loopg [6] i (fun g s6 wr => ∃ j : Nat, j + g = i ∧ s6 = .int .i64 j ∧ Kept W3 wr)
        case atStart => exact ⟨0, by omega, rfl, Below.refl _ _⟩
        case round =>
          obtain ⟨j, hj, rfl, hkj⟩ := hrel
          have Hj := hide hj
          have hkall := ((hk.trans' hk2).trans' hk3).trans' hkj
          have b1 := heap_kept hkall HB.out
          have bf := heap_kept hkj HB3.out
          have l1' := heap_lt b1
          have l2 := heap_lt bf
          have p0' : wr.cell? ⟨w.heap.size, 0, none⟩ = some (.slice (some ⟨b, off, none⟩) n c) := cell_heap b1 (o := 0) rfl
          clear hj
          by_cases hlj : j < i
          · obtain ⟨g, b2, off2, cs2, hg, he, hbb2, ⟨A2, rfl, hul2, _⟩, hcs⟩ := (hl.kept (HkW.out.trans' hkall)).at (show j < n by omega)
            injection he with he
            injection he with e1 e2
            subst e1 e2
            have yc : ∀ (o : Nat) v, (g.cells A2)[o]? = some v → wr.cell? ⟨b, off + j * 13 + o, none⟩ = some v := fun o v h => hcs o v h
            have y0 : wr.cell? ⟨b, off + j * 13, none⟩ = _ := yc 0 _ rfl
            have y1 := yc 1 _ rfl
            have y2 := yc 2 _ rfl
            have y3 := yc 3 _ rfl
            have y4 := yc 4 _ rfl
            have y5 := yc 5 _ rfl
            have y6 := yc 6 _ rfl
            have y7 := yc 7 _ rfl
            have y8 := yc 8 _ rfl
            have y9 := yc 9 _ rfl
            have y10 := yc 10 _ rfl
            have y11 := yc 11 _ rfl
            have y12 := yc 12 _ rfl
            clear hcs yc
            have hbl2 : b < wr.heap.size := hbb2
            have hj0 : (0 : Int) ≤ (j : Int) := by omega
            have hlj' : (j : Int) < (i : Int) := by omega
            have hljn : (j : Int) < (n : Int) := by omega
            have Hg := hide hg
            obtain ⟨a1', a2', a3', a4'⟩ := Hs.out.2 g (List.mem_of_getElem? hg)
            have hpin := pos_in Hs.out Hp.out hg
            have hbd := bits_le l g.kind g.report Hs.out.2
            have hlen : (l.length : Int) ≤ 256 := by have := Hn.out; omega
            have hm1' : g.size * g.count ≤ 32 * g.count := Int.mul_le_mul_of_nonneg_right (by omega) (by omega)
            have hm2' : 1 * g.count ≤ g.size * g.count := Int.mul_le_mul_of_nonneg_right (by omega) (by omega)
            have hw5 : IntKind.i64.wrap (g.size * g.count) = g.size * g.count := by rw [IntKind.wrap_i64]; omega
            have hw6 : IntKind.i64.wrap (g.pos + g.size * g.count) = g.pos + g.size * g.count := by rw [IntKind.wrap_i64]; omega
            have Hbf := hide bf
            have Hb1 := hide b1
            clear hg hpin hbd hlen bf b1
            go_upto_region 14 with (fail)
            refine wp_at (fun W4 => W4.heap[wr.heap.size]? = some (.cells #[.int .u8 g.kind, .int .u8 g.report, .int .i64 g.parent, .slice A2 g.usages.length g.usages.length, .int .i64 g.lo, .int .i64 g.hi, .int .i64 g.size, .int .i64 g.count, .int .i64 g.pos, .bool g.const, .bool g.array, .bool g.signed, .bool g.rel] 59 (0, 0)) ∧ Kept wr W4) ⟨heap_at _ rfl, by go_grown⟩ (fun W4 hW4 => ?_)
            obtain ⟨hB4, hk4⟩ := hW4
            have bf := heap_kept hk4 Hbf.out
            have l3 := heap_lt hB4
            have l4 := heap_lt bf
            have f0 : W4.cell? ⟨wo.heap.size, 0, none⟩ = some (.int .u8 f.kind) := cell_heap bf (o := 0) rfl
            have f1 : W4.cell? ⟨wo.heap.size, 1, none⟩ = some (.int .u8 f.report) := cell_heap bf (o := 1) rfl
            have f6 : W4.cell? ⟨wo.heap.size, 6, none⟩ = some (.int .i64 f.size) := cell_heap bf (o := 6) rfl
            have f7 : W4.cell? ⟨wo.heap.size, 7, none⟩ = some (.int .i64 f.count) := cell_heap bf (o := 7) rfl
            have f8 : W4.cell? ⟨wo.heap.size, 8, none⟩ = some (.int .i64 f.pos) := cell_heap bf (o := 8) rfl
            have g0 : W4.cell? ⟨wr.heap.size, 0, none⟩ = some (.int .u8 g.kind) := cell_heap hB4 (o := 0) rfl
            have g1 : W4.cell? ⟨wr.heap.size, 1, none⟩ = some (.int .u8 g.report) := cell_heap hB4 (o := 1) rfl
            have g6 : W4.cell? ⟨wr.heap.size, 6, none⟩ = some (.int .i64 g.size) := cell_heap hB4 (o := 6) rfl
            have g7 : W4.cell? ⟨wr.heap.size, 7, none⟩ = some (.int .i64 g.count) := cell_heap hB4 (o := 7) rfl
            have g8 : W4.cell? ⟨wr.heap.size, 8, none⟩ = some (.int .i64 g.pos) := cell_heap hB4 (o := 8) rfl
            clear bf hB4 y0 y1 y2 y3 y4 y5 y6 y7 y8 y9 y10 y11 y12 p0'
            by_cases k1 : g.kind = f.kind
            · by_cases k2 : g.report = f.report
              · by_cases k3 : g.pos < f.pos + f.size * f.count
                · have d1 : (g.kind == f.kind) = true := by rw [beq_iff_eq]; exact k1
                  have d2 : (g.report == f.report) = true := by rw [beq_iff_eq]; exact k2
                  have d3 : decide (g.pos < f.pos + f.size * f.count) = true := decide_eq_true k3
                  have d4 : decide (f.pos < g.pos + g.size * g.count) = false := decide_eq_false (by have := pos_apart Hs.out Hp.out Hf.out Hg.out hlj k1 k2; omega)
                  try clear k3
                  try clear k2
                  try clear k1
                  go_wp2_with fail
                  go_roundg (gk - 1)
                  case measure => have := Hj.out; omega
                  case rel => exact ⟨j + 1, by have := Hj.out; omega, by go_num, hkj.trans' hk4⟩
                · have d1 : (g.kind == f.kind) = true := by rw [beq_iff_eq]; exact k1
                  have d2 : (g.report == f.report) = true := by rw [beq_iff_eq]; exact k2
                  have d3 : decide (g.pos < f.pos + f.size * f.count) = false := decide_eq_false k3
                  try clear k3
                  try clear k2
                  try clear k1
                  go_wp2_with fail
                  go_roundg (gk - 1)
                  case measure => have := Hj.out; omega
                  case rel => exact ⟨j + 1, by have := Hj.out; omega, by go_num, hkj.trans' hk4⟩
              · have d1 : (g.kind == f.kind) = true := by rw [beq_iff_eq]; exact k1
                have d2 : (g.report == f.report) = false := beq_false_of_ne k2
                try clear k3
                try clear k2
                try clear k1
                go_wp2_with fail
                go_roundg (gk - 1)
                case measure => have := Hj.out; omega
                case rel => exact ⟨j + 1, by have := Hj.out; omega, by go_num, hkj.trans' hk4⟩
            · have d1 : (g.kind == f.kind) = false := beq_false_of_ne k1
              try clear k3
              try clear k2
              try clear k1
              go_wp2_with fail
              go_roundg (gk - 1)
              case measure => have := Hj.out; omega
              case rel => exact ⟨j + 1, by have := Hj.out; omega, by go_num, hkj.trans' hk4⟩
          · have hge : (i : Int) ≤ (j : Int) := by omega
            go_wp2_with fail
            go_roundg (go - 1)
            case measure => have := Hi.out; omega
            case rel => exact ⟨i + 1, by have := Hi.out; omega, rfl, hkall⟩
    · have hge : (n : Int) ≤ (i : Int) := by omega
      go_wp2_with fail
      go_ret
      exact ⟨rfl, HkW.out.trans' hk⟩
end Go.Proofs.Ytegdigfcgeoboaa
