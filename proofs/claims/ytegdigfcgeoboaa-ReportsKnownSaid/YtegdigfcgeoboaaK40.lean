/- The law of the chapter on reports, part 40: Kc Kd. -/
import Derived.Test.YtegdigfcgeoboaaK39
set_option maxHeartbeats 16000000
set_option linter.unusedVariables false
set_option linter.unusedSimpArgs false
set_option linter.unusedSectionVars false
namespace Go.Proofs.Ytegdigfcgeoboaa
open Go.RowKit
attribute [local go_sem ↓] Go.wp_at_zero Go.wp_at_succ
set_option maxRecDepth 100000 in
theorem apart_any (A C : Option Addr) (n c m d : Nat) (nb : Bool) (l : List Fd) (w : World) (hs : SizesOk l) (hp : PosOk l) (hl : Sl fdT w (low w.heap.size) A n l) :
  Calls Try.prog 16 #[.agg #[.slice A n c, .slice C m d, .bool nb]] w fun e w' => e = .returned (.bool true) ∧ Kept w w' := by
 have hn := hl.1
 have hn2 := hs.1
 have Hs := hide hs
 have Hp := hide hp
 have Hn := hide hn
 have hn3 : n ≤ 256 := by omega
 clear hs hp hn hn2
 go_enter Try.func16, Try.ntmps16
 go_upto_region 2 with (fail)
 refine wp_at (fun W => W.heap[w.heap.size]? = some (.cells #[.slice A n c, .slice C m d, .bool nb] 40 (0, 0)) ∧ Kept w W) ⟨heap_at _ rfl, by go_grown⟩ (fun W hW => ?_)
 obtain ⟨hB, hkW⟩ := hW
 have HB := hide hB
 have HkW := hide hkW
 clear hB hkW
 go_wp2_with fail
 go_loopg [3] n (fun g s3 wr => ∃ i : Nat, i + g = n ∧ s3 = .int .i64 i ∧ Kept W wr)
 case atStart => exact ⟨0, by omega, rfl, Below.refl _ _⟩
 case round =>
  obtain ⟨i, hi, rfl, hk⟩ := hrel
  have Hi := hide hi
  have b1 := heap_kept hk HB.out
  have l1 := heap_lt b1
  have p0 : wr.cell? ⟨w.heap.size, 0, none⟩ = some (.slice A n c) := cell_heap b1 (o := 0) rfl
  have p1 : wr.cell? ⟨w.heap.size, 1, none⟩ = some (.slice C m d) := cell_heap b1 (o := 1) rfl
  have p2 : wr.cell? ⟨w.heap.size, 2, none⟩ = some (.bool nb) := cell_heap b1 (o := 2) rfl
  clear hi b1
  by_cases hlt : i < n
  ·obtain ⟨f, b, off, cs, hf, rfl, hbb, ⟨A', rfl, hul, _⟩, hcs⟩ := (hl.kept (HkW.out.trans' hk)).at hlt
   have xc : ∀ (j : Nat) v, (f.cells A')[j]? = some v → wr.cell? ⟨b, off + i * 13 + j, none⟩ = some v := fun j v h => hcs j v h
   have x0 : wr.cell? ⟨b, off + i * 13, none⟩ = _ := xc 0 _ rfl
   have x1 := xc 1 _ rfl
   have x2 := xc 2 _ rfl
   have x3 := xc 3 _ rfl
   have x4 := xc 4 _ rfl
   have x5 := xc 5 _ rfl
   have x6 := xc 6 _ rfl
   have x7 := xc 7 _ rfl
   have x8 := xc 8 _ rfl
   have x9 := xc 9 _ rfl
   have x10 := xc 10 _ rfl
   have x11 := xc 11 _ rfl
   have x12 := xc 12 _ rfl
   clear hcs xc
   have hbl : b < wr.heap.size := hbb
   have hi0 : (0 : Int) ≤ (i : Int) := by omega
   have hlt' : (i : Int) < (n : Int) := by omega
   have Hf := hide hf
   obtain ⟨a1, a2, a3, a4⟩ := Hs.out.2 f (List.mem_of_getElem? hf)
   have hpin := pos_in Hs.out Hp.out hf
   have hbd := bits_le l f.kind f.report Hs.out.2
   have hlen : (l.length : Int) ≤ 256 := by have := Hn.out; omega
   have hany : l.any (fun g => g.kind == f.kind && g.report == f.report) = true := List.any_eq_true.2 ⟨f, List.mem_of_getElem? hf, by simp⟩
   have hL : lenS nb l f.kind f.report = (bitsS l f.kind f.report + 7) / 8 + (if nb then 1 else 0) := by
    unfold lenS; rw [hany, Bool.true_and]
   obtain ⟨B, hBB⟩ : ∃ B, bitsS l f.kind f.report = B := ⟨_, rfl⟩
   rw [hBB] at hpin hbd hL
   have hb1 := hbd.1
   have hb2 : B ≤ 2097152 := by have := hbd.2; omega
   have hq1 := hpin.1
   have hq2 := hpin.2
   have hm1 : f.size * f.count ≤ 32 * f.count := Int.mul_le_mul_of_nonneg_right (by omega) (by omega)
   have hm2 : 1 * f.count ≤ f.size * f.count := Int.mul_le_mul_of_nonneg_right (by omega) (by omega)
   have hw1 : IntKind.i64.wrap (f.size * f.count) = f.size * f.count := by rw [IntKind.wrap_i64]; omega
   have hw2 : IntKind.i64.wrap (f.pos + f.size * f.count) = f.pos + f.size * f.count := by rw [IntKind.wrap_i64]; omega
   obtain ⟨L, hLL⟩ : ∃ L, lenS nb l f.kind f.report = L := ⟨_, rfl⟩
   have hL2 : 8 * L = 8 * ((B + 7) / 8) + (if nb then 8 else 0) := by rw [← hLL, hL]; split <;> omega
   have hL3 : 0 ≤ L ∧ L ≤ 300000 := by rw [← hLL, hL]; split <;> omega
   have hw3 : IntKind.i64.wrap (8 * L) = 8 * L := by rw [IntKind.wrap_i64]; omega
   have hw4 : IntKind.i64.wrap (8 * L - 8) = 8 * L - 8 := by rw [IntKind.wrap_i64]; omega
   have g1 : decide (f.pos < 0) = false := decide_eq_false (by omega)
   have HLL := hide hLL
   have HL2 := hide hL2
   clear hf hpin hbd hany hL hBB hLL hlen hL2
   go_upto_region 5 with (fail)
   refine wp_at (fun W2 => W2.heap[wr.heap.size]? = some (.cells #[.int .u8 f.kind, .int .u8 f.report, .int .i64 f.parent, .slice A' f.usages.length f.usages.length, .int .i64 f.lo, .int .i64 f.hi, .int .i64 f.size, .int .i64 f.count, .int .i64 f.pos, .bool f.const, .bool f.array, .bool f.signed, .bool f.rel] 59 (0, 0)) ∧ Kept wr W2) ⟨heap_at _ rfl, by go_grown⟩ (fun W2 hW2 => ?_)
   obtain ⟨hB2, hk2⟩ := hW2
   have HB2 := hide hB2
   have b1 := heap_kept (hk.trans' hk2) HB.out
   have l1' := heap_lt b1
   have p0' : W2.cell? ⟨w.heap.size, 0, none⟩ = some (.slice (some ⟨b, off, none⟩) n c) := cell_heap b1 (o := 0) rfl
   have p1' : W2.cell? ⟨w.heap.size, 1, none⟩ = some (.slice C m d) := cell_heap b1 (o := 1) rfl
   have p2' : W2.cell? ⟨w.heap.size, 2, none⟩ = some (.bool nb) := cell_heap b1 (o := 2) rfl
   have f0 : W2.cell? ⟨wr.heap.size, 0, none⟩ = some (.int .u8 f.kind) := cell_heap hB2 (o := 0) rfl
   have f1 : W2.cell? ⟨wr.heap.size, 1, none⟩ = some (.int .u8 f.report) := cell_heap hB2 (o := 1) rfl
   have l2 := heap_lt hB2
   have hlen := length21 (some ⟨b, off, none⟩) C n c m d nb l f.kind f.report W2 Hs.out ((hl.kept (HkW.out.trans' hk)).kept hk2)
   rw [HLL.out] at hlen
   have Hlen := hide hlen
   clear hlen hB2 b1 x0 x1 x2 x3 x4 x5 x6 x7 x8 x9 x10 x11 x12 p0 p1 p2
   go_upto_region 6 with (go_at_call 21; refine Hlen.out.mono ?_; rintro e w3 ⟨rfl, hk3⟩)
   refine wp_at (fun W3 => Kept W2 W3) (by first | assumption | exact hk3) (fun W3 hk3 => ?_)
   have hB3 := heap_kept hk3 HB2.out
   have b1 := heap_kept ((hk.trans' hk2).trans' hk3) HB.out
   have l1' := heap_lt b1
   have l2 := heap_lt hB3
   have p0' : W3.cell? ⟨w.heap.size, 0, none⟩ = some (.slice (some ⟨b, off, none⟩) n c) := cell_heap b1 (o := 0) rfl
   have p2' : W3.cell? ⟨w.heap.size, 2, none⟩ = some (.bool nb) := cell_heap b1 (o := 2) rfl
   have f6 : W3.cell? ⟨wr.heap.size, 6, none⟩ = some (.int .i64 f.size) := cell_heap hB3 (o := 6) rfl
   have f7 : W3.cell? ⟨wr.heap.size, 7, none⟩ = some (.int .i64 f.count) := cell_heap hB3 (o := 7) rfl
   have f8 : W3.cell? ⟨wr.heap.size, 8, none⟩ = some (.int .i64 f.pos) := cell_heap hB3 (o := 8) rfl
   cases nb with
   | true =>
    have g2 : decide (8 * L - 8 < f.pos + f.size * f.count) = false := decide_eq_false (by have h2 := HL2.out; simp at h2; omega)
    have hwi : IntKind.i64.wrap ((i : Int) + 1) = ((i + 1 : Nat) : Int) := by rw [IntKind.wrap_i64]; omega
    clear hL3 hq2
    go_wp2_with fail
    obtain ⟨wo, rfl⟩ : ∃ wo, wo = wr := ⟨_, rfl⟩
    obtain ⟨go, rfl⟩ : ∃ go, go = gk := ⟨_, rfl⟩
    have HB3 := hide hB3
    clear hB3 b1 p0' p2' l1' l2 f6 f7 f8 f0 f1
    go_loopg [6] i (fun g s6 wr => ∃ j : Nat, j + g = i ∧ s6 = .int .i64 j ∧ Kept W3 wr)
    case atStart => exact ⟨0, by omega, rfl, Below.refl _ _⟩
    case round =>
     obtain ⟨j, hj, rfl, hkj⟩ := hrel
     have Hj := hide hj
     have hkall := ((hk.trans' hk2).trans' hk3).trans' hkj
     have b1 := heap_kept hkall HB.out
     have bf := heap_kept hkj HB3.out
     have l1' := heap_lt b1
     have l2 := heap_lt bf
     have p0' : wr.cell? ⟨w.heap.size, 0, none⟩ = some (.slice (some ⟨b, off, none⟩) n c) := cell_heap b1 (o := 0) rfl
     clear hj
     by_cases hlj : j < i
     ·obtain ⟨g, b2, off2, cs2, hg, he, hbb2, ⟨A2, rfl, hul2, _⟩, hcs⟩ := (hl.kept (HkW.out.trans' hkall)).at (show j < n by omega)
      injection he with he
      injection he with e1 e2
      subst e1 e2
      have yc : ∀ (o : Nat) v, (g.cells A2)[o]? = some v → wr.cell? ⟨b, off + j * 13 + o, none⟩ = some v := fun o v h => hcs o v h
      have y0 : wr.cell? ⟨b, off + j * 13, none⟩ = _ := yc 0 _ rfl
      have y1 := yc 1 _ rfl
      have y2 := yc 2 _ rfl
      have y3 := yc 3 _ rfl
      have y4 := yc 4 _ rfl
      have y5 := yc 5 _ rfl
      have y6 := yc 6 _ rfl
      have y7 := yc 7 _ rfl
      have y8 := yc 8 _ rfl
      have y9 := yc 9 _ rfl
      have y10 := yc 10 _ rfl
      have y11 := yc 11 _ rfl
      have y12 := yc 12 _ rfl
      clear hcs yc
      have hbl2 : b < wr.heap.size := hbb2
      have hj0 : (0 : Int) ≤ (j : Int) := by omega
      have hlj' : (j : Int) < (i : Int) := by omega
      have hljn : (j : Int) < (n : Int) := by omega
      have Hg := hide hg
      obtain ⟨a1', a2', a3', a4'⟩ := Hs.out.2 g (List.mem_of_getElem? hg)
      have hpin := pos_in Hs.out Hp.out hg
      have hbd := bits_le l g.kind g.report Hs.out.2
      have hlen : (l.length : Int) ≤ 256 := by have := Hn.out; omega
      have hm1' : g.size * g.count ≤ 32 * g.count := Int.mul_le_mul_of_nonneg_right (by omega) (by omega)
      have hm2' : 1 * g.count ≤ g.size * g.count := Int.mul_le_mul_of_nonneg_right (by omega) (by omega)
      have hw5 : IntKind.i64.wrap (g.size * g.count) = g.size * g.count := by rw [IntKind.wrap_i64]; omega
      have hw6 : IntKind.i64.wrap (g.pos + g.size * g.count) = g.pos + g.size * g.count := by rw [IntKind.wrap_i64]; omega
      have Hbf := hide bf
      have Hb1 := hide b1
      clear hg hpin hbd hlen bf b1
      go_upto_region 14 with (fail)
      refine wp_at (fun W4 => W4.heap[wr.heap.size]? = some (.cells #[.int .u8 g.kind, .int .u8 g.report, .int .i64 g.parent, .slice A2 g.usages.length g.usages.length, .int .i64 g.lo, .int .i64 g.hi, .int .i64 g.size, .int .i64 g.count, .int .i64 g.pos, .bool g.const, .bool g.array, .bool g.signed, .bool g.rel] 59 (0, 0)) ∧ Kept wr W4) ⟨heap_at _ rfl, by go_grown⟩ (fun W4 hW4 => ?_)
      obtain ⟨hB4, hk4⟩ := hW4
      have bf := heap_kept hk4 Hbf.out
      have l3 := heap_lt hB4
      have l4 := heap_lt bf
      have f0 : W4.cell? ⟨wo.heap.size, 0, none⟩ = some (.int .u8 f.kind) := cell_heap bf (o := 0) rfl
      have f1 : W4.cell? ⟨wo.heap.size, 1, none⟩ = some (.int .u8 f.report) := cell_heap bf (o := 1) rfl
      have f6 : W4.cell? ⟨wo.heap.size, 6, none⟩ = some (.int .i64 f.size) := cell_heap bf (o := 6) rfl
      have f7 : W4.cell? ⟨wo.heap.size, 7, none⟩ = some (.int .i64 f.count) := cell_heap bf (o := 7) rfl
      have f8 : W4.cell? ⟨wo.heap.size, 8, none⟩ = some (.int .i64 f.pos) := cell_heap bf (o := 8) rfl
      have g0 : W4.cell? ⟨wr.heap.size, 0, none⟩ = some (.int .u8 g.kind) := cell_heap hB4 (o := 0) rfl
      have g1 : W4.cell? ⟨wr.heap.size, 1, none⟩ = some (.int .u8 g.report) := cell_heap hB4 (o := 1) rfl
      have g6 : W4.cell? ⟨wr.heap.size, 6, none⟩ = some (.int .i64 g.size) := cell_heap hB4 (o := 6) rfl
      have g7 : W4.cell? ⟨wr.heap.size, 7, none⟩ = some (.int .i64 g.count) := cell_heap hB4 (o := 7) rfl
      have g8 : W4.cell? ⟨wr.heap.size, 8, none⟩ = some (.int .i64 g.pos) := cell_heap hB4 (o := 8) rfl
      clear bf hB4 y0 y1 y2 y3 y4 y5 y6 y7 y8 y9 y10 y11 y12 p0'
      by_cases k1 : g.kind = f.kind
      ·by_cases k2 : g.report = f.report
       ·by_cases k3 : g.pos < f.pos + f.size * f.count
        ·have d1 : (g.kind == f.kind) = true := by rw [beq_iff_eq]; exact k1
         have d2 : (g.report == f.report) = true := by rw [beq_iff_eq]; exact k2
         have d3 : decide (g.pos < f.pos + f.size * f.count) = true := decide_eq_true k3
         have d4 : decide (f.pos < g.pos + g.size * g.count) = false := decide_eq_false (by have := pos_apart Hs.out Hp.out Hf.out Hg.out hlj k1 k2; omega)
         try clear k3
         try clear k2
         try clear k1
         go_wp2_with fail
         go_roundg (gk - 1)
         case measure => have := Hj.out; omega
         case rel => exact ⟨j + 1, by have := Hj.out; omega, by go_num, hkj.trans' hk4⟩
        ·have d1 : (g.kind == f.kind) = true := by rw [beq_iff_eq]; exact k1
         have d2 : (g.report == f.report) = true := by rw [beq_iff_eq]; exact k2
         have d3 : decide (g.pos < f.pos + f.size * f.count) = false := decide_eq_false k3
         try clear k3
         try clear k2
         try clear k1
         go_wp2_with fail
         go_roundg (gk - 1)
         case measure => have := Hj.out; omega
         case rel => exact ⟨j + 1, by have := Hj.out; omega, by go_num, hkj.trans' hk4⟩
       ·have d1 : (g.kind == f.kind) = true := by rw [beq_iff_eq]; exact k1
        have d2 : (g.report == f.report) = false := beq_false_of_ne k2
        try clear k3
        try clear k2
        try clear k1
        go_wp2_with fail
        go_roundg (gk - 1)
        case measure => have := Hj.out; omega
        case rel => exact ⟨j + 1, by have := Hj.out; omega, by go_num, hkj.trans' hk4⟩
      ·have d1 : (g.kind == f.kind) = false := beq_false_of_ne k1
       try clear k3
       try clear k2
       try clear k1
       go_wp2_with fail
       go_roundg (gk - 1)
       case measure => have := Hj.out; omega
       case rel => exact ⟨j + 1, by have := Hj.out; omega, by go_num, hkj.trans' hk4⟩
     ·have hge : (i : Int) ≤ (j : Int) := by omega
      go_wp2_with fail
      go_roundg (go - 1)
      case measure => have := Hi.out; omega
      case rel => exact ⟨i + 1, by have := Hi.out; omega, rfl, hkall⟩
   | false =>
    have g2 : decide (8 * L < f.pos + f.size * f.count) = false := decide_eq_false (by have h2 := HL2.out; simp at h2; omega)
    have hwi : IntKind.i64.wrap ((i : Int) + 1) = ((i + 1 : Nat) : Int) := by rw [IntKind.wrap_i64]; omega
    clear hL3 hq2
    go_wp2_with fail
    obtain ⟨wo, rfl⟩ : ∃ wo, wo = wr := ⟨_, rfl⟩
    obtain ⟨go, rfl⟩ : ∃ go, go = gk := ⟨_, rfl⟩
    have HB3 := hide hB3
    clear hB3 b1 p0' p2' l1' l2 f6 f7 f8 f0 f1
    go_loopg [6] i (fun g s6 wr => ∃ j : Nat, j + g = i ∧ s6 = .int .i64 j ∧ Kept W3 wr)
    case atStart => exact ⟨0, by omega, rfl, Below.refl _ _⟩
    case round =>
     obtain ⟨j, hj, rfl, hkj⟩ := hrel
     have Hj := hide hj
     have hkall := ((hk.trans' hk2).trans' hk3).trans' hkj
     have b1 := heap_kept hkall HB.out
     have bf := heap_kept hkj HB3.out
     have l1' := heap_lt b1
     have l2 := heap_lt bf
     have p0' : wr.cell? ⟨w.heap.size, 0, none⟩ = some (.slice (some ⟨b, off, none⟩) n c) := cell_heap b1 (o := 0) rfl
     clear hj
     by_cases hlj : j < i
     ·obtain ⟨g, b2, off2, cs2, hg, he, hbb2, ⟨A2, rfl, hul2, _⟩, hcs⟩ := (hl.kept (HkW.out.trans' hkall)).at (show j < n by omega)
      injection he with he
      injection he with e1 e2
      subst e1 e2
      have yc : ∀ (o : Nat) v, (g.cells A2)[o]? = some v → wr.cell? ⟨b, off + j * 13 + o, none⟩ = some v := fun o v h => hcs o v h
      have y0 : wr.cell? ⟨b, off + j * 13, none⟩ = _ := yc 0 _ rfl
      have y1 := yc 1 _ rfl
      have y2 := yc 2 _ rfl
      have y3 := yc 3 _ rfl
      have y4 := yc 4 _ rfl
      have y5 := yc 5 _ rfl
      have y6 := yc 6 _ rfl
      have y7 := yc 7 _ rfl
      have y8 := yc 8 _ rfl
      have y9 := yc 9 _ rfl
      have y10 := yc 10 _ rfl
      have y11 := yc 11 _ rfl
      have y12 := yc 12 _ rfl
      clear hcs yc
      have hbl2 : b < wr.heap.size := hbb2
      have hj0 : (0 : Int) ≤ (j : Int) := by omega
      have hlj' : (j : Int) < (i : Int) := by omega
      have hljn : (j : Int) < (n : Int) := by omega
      have Hg := hide hg
      obtain ⟨a1', a2', a3', a4'⟩ := Hs.out.2 g (List.mem_of_getElem? hg)
      have hpin := pos_in Hs.out Hp.out hg
      have hbd := bits_le l g.kind g.report Hs.out.2
      have hlen : (l.length : Int) ≤ 256 := by have := Hn.out; omega
      have hm1' : g.size * g.count ≤ 32 * g.count := Int.mul_le_mul_of_nonneg_right (by omega) (by omega)
      have hm2' : 1 * g.count ≤ g.size * g.count := Int.mul_le_mul_of_nonneg_right (by omega) (by omega)
      have hw5 : IntKind.i64.wrap (g.size * g.count) = g.size * g.count := by rw [IntKind.wrap_i64]; omega
      have hw6 : IntKind.i64.wrap (g.pos + g.size * g.count) = g.pos + g.size * g.count := by rw [IntKind.wrap_i64]; omega
      have Hbf := hide bf
      have Hb1 := hide b1
      clear hg hpin hbd hlen bf b1
      go_upto_region 14 with (fail)
      refine wp_at (fun W4 => W4.heap[wr.heap.size]? = some (.cells #[.int .u8 g.kind, .int .u8 g.report, .int .i64 g.parent, .slice A2 g.usages.length g.usages.length, .int .i64 g.lo, .int .i64 g.hi, .int .i64 g.size, .int .i64 g.count, .int .i64 g.pos, .bool g.const, .bool g.array, .bool g.signed, .bool g.rel] 59 (0, 0)) ∧ Kept wr W4) ⟨heap_at _ rfl, by go_grown⟩ (fun W4 hW4 => ?_)
      obtain ⟨hB4, hk4⟩ := hW4
      have bf := heap_kept hk4 Hbf.out
      have l3 := heap_lt hB4
      have l4 := heap_lt bf
      have f0 : W4.cell? ⟨wo.heap.size, 0, none⟩ = some (.int .u8 f.kind) := cell_heap bf (o := 0) rfl
      have f1 : W4.cell? ⟨wo.heap.size, 1, none⟩ = some (.int .u8 f.report) := cell_heap bf (o := 1) rfl
      have f6 : W4.cell? ⟨wo.heap.size, 6, none⟩ = some (.int .i64 f.size) := cell_heap bf (o := 6) rfl
      have f7 : W4.cell? ⟨wo.heap.size, 7, none⟩ = some (.int .i64 f.count) := cell_heap bf (o := 7) rfl
      have f8 : W4.cell? ⟨wo.heap.size, 8, none⟩ = some (.int .i64 f.pos) := cell_heap bf (o := 8) rfl
      have g0 : W4.cell? ⟨wr.heap.size, 0, none⟩ = some (.int .u8 g.kind) := cell_heap hB4 (o := 0) rfl
      have g1 : W4.cell? ⟨wr.heap.size, 1, none⟩ = some (.int .u8 g.report) := cell_heap hB4 (o := 1) rfl
      have g6 : W4.cell? ⟨wr.heap.size, 6, none⟩ = some (.int .i64 g.size) := cell_heap hB4 (o := 6) rfl
      have g7 : W4.cell? ⟨wr.heap.size, 7, none⟩ = some (.int .i64 g.count) := cell_heap hB4 (o := 7) rfl
      have g8 : W4.cell? ⟨wr.heap.size, 8, none⟩ = some (.int .i64 g.pos) := cell_heap hB4 (o := 8) rfl
      clear bf hB4 y0 y1 y2 y3 y4 y5 y6 y7 y8 y9 y10 y11 y12 p0'
      by_cases k1 : g.kind = f.kind
      ·by_cases k2 : g.report = f.report
       ·by_cases k3 : g.pos < f.pos + f.size * f.count
        ·have d1 : (g.kind == f.kind) = true := by rw [beq_iff_eq]; exact k1
         have d2 : (g.report == f.report) = true := by rw [beq_iff_eq]; exact k2
         have d3 : decide (g.pos < f.pos + f.size * f.count) = true := decide_eq_true k3
         have d4 : decide (f.pos < g.pos + g.size * g.count) = false := decide_eq_false (by have := pos_apart Hs.out Hp.out Hf.out Hg.out hlj k1 k2; omega)
         try clear k3
         try clear k2
         try clear k1
         go_wp2_with fail
         go_roundg (gk - 1)
         case measure => have := Hj.out; omega
         case rel => exact ⟨j + 1, by have := Hj.out; omega, by go_num, hkj.trans' hk4⟩
        ·have d1 : (g.kind == f.kind) = true := by rw [beq_iff_eq]; exact k1
         have d2 : (g.report == f.report) = true := by rw [beq_iff_eq]; exact k2
         have d3 : decide (g.pos < f.pos + f.size * f.count) = false := decide_eq_false k3
         try clear k3
         try clear k2
         try clear k1
         go_wp2_with fail
         go_roundg (gk - 1)
         case measure => have := Hj.out; omega
         case rel => exact ⟨j + 1, by have := Hj.out; omega, by go_num, hkj.trans' hk4⟩
       ·have d1 : (g.kind == f.kind) = true := by rw [beq_iff_eq]; exact k1
        have d2 : (g.report == f.report) = false := beq_false_of_ne k2
        try clear k3
        try clear k2
        try clear k1
        go_wp2_with fail
        go_roundg (gk - 1)
        case measure => have := Hj.out; omega
        case rel => exact ⟨j + 1, by have := Hj.out; omega, by go_num, hkj.trans' hk4⟩
      ·have d1 : (g.kind == f.kind) = false := beq_false_of_ne k1
       try clear k3
       try clear k2
       try clear k1
       go_wp2_with fail
       go_roundg (gk - 1)
       case measure => have := Hj.out; omega
       case rel => exact ⟨j + 1, by have := Hj.out; omega, by go_num, hkj.trans' hk4⟩
     ·have hge : (i : Int) ≤ (j : Int) := by omega
      go_wp2_with fail
      go_roundg (go - 1)
      case measure => have := Hi.out; omega
      case rel => exact ⟨i + 1, by have := Hi.out; omega, rfl, hkall⟩
  ·have hge : (n : Int) ≤ (i : Int) := by omega
   go_wp2_with fail
   go_ret
   exact ⟨rfl, HkW.out.trans' hk⟩
end Go.Proofs.Ytegdigfcgeoboaa
namespace Go.Proofs.Ytegdigfcgeoboaa
open Go.RowKit Go.Maps
attribute [local go_sem ↓] Go.wp_at_zero Go.wp_at_succ
theorem join_parse {L : List It} (hok : ∀ x ∈ L, x.wide = true ∧ x.ok) (hl : L.length ≤ 300) : joinE L = 0 ∧ parseE (joinB L) = (parseS L).1 ∧ parseM (joinB L) = (parseS L).2 ∧ (joinB L).length ≤ 1500 := by
 have hj := joinB_len L hok
 have hij := items_join L hok
 have h1 : joinE L = 0 := by
  unfold joinE
  rw [if_pos (List.all_eq_true.2 fun x hx => (hok x hx).1), if_neg (by omega)]
 have h2 : itemsE (joinB L) = 0 := by
  unfold itemsE goodB
  rw [hij, if_neg (by omega), if_pos]
  rw [List.all_eq_true]
  intro x hx
  have := (wide_iff (hok x hx).1 (hok x hx).2).2.2.2.2
  rw [decide_eq_true_eq]; omega
 refine ⟨h1, ?_, ?_, by omega⟩
 ·unfold parseE
  rw [if_neg (by rw [h2]; simp), hij]
 ·unfold parseM
  rw [hij]
theorem parse_fine {l : List It} (hw : ∀ x ∈ l, x.wide = true ∧ x.ok) (h0 : (parseS l).1 = 0) : SizesOk (parseS l).2.fields ∧ PosOk (parseS l).2.fields ∧ (parseS l).2.colls.length ≤ 64 := by
 have h1 : (runS l rs0).1 = 0 := by
  refine Classical.byContradiction fun h => ?_
  unfold parseS at h0
  rw [if_pos h] at h0
  exact h h0
 have h2 : (parseS l).2 = (runS l rs0).2 := by unfold parseS; rw [if_neg (by rw [h1]; simp)]
 have hf := run_fine l rs0 fine0 hw h1
 rw [h2]
 refine ⟨⟨hf.fields.1, fun f hf2 => ?_⟩, run_pos l rs0 (fun i f h => by simp [rs0] at h), hf.colls.1⟩
 obtain ⟨a, b, c, d, _⟩ := hf.fields.2 f hf2
 exact ⟨a, b, c, d⟩
theorem joinE_wide {l : List It} (h : joinE l = 0) : l.all It.wide = true := by
 unfold joinE at h
 refine Classical.byContradiction fun h2 => ?_
 rw [if_neg h2] at h
 cases h
set_option maxRecDepth 100000 in
theorem parse_law (A : Option Addr) (n c : Nat) (l : List It) (w : World) (hnc : n ≤ c) (hc : c ≤ maxLen) (hl : Sl itT w (low w.heap.size) A n l) :
  Calls Try.prog 4 #[.slice A n c] w fun e w' => e = .returned (.bool true) ∧ Kept w w' := by
 have hln := hl.1
 go_enter Try.func4, Try.ntmps4
 by_cases h60 : 60 < n
 ·have hd : decide (60 < (n : Int)) = true := decide_eq_true (by omega)
  go_wp2_with (go_at_call 8; refine (lives_any _).mono ?_; rintro e w1 ⟨rfl, hk⟩)
  go_ret
  exact ⟨rfl, hk⟩
 have hd : decide (60 < (n : Int)) = false := decide_eq_false (by omega)
 by_cases hj : joinE l = 0
 ·have hits := hl.its
  have hw : ∀ x ∈ l, x.wide = true ∧ x.ok := fun x hx => ⟨List.all_eq_true.1 (joinE_wide hj) x hx, hits x hx⟩
  obtain ⟨_, hpE, hpM, hlen⟩ := join_parse hw (by omega)
  have hjo : Calls Try.prog 11 #[.slice A n c] w fun e w'' => ∃ A' L, e = .returned (.tuple #[.slice A' L L, .int .i64 0]) ∧ Sl u8T w'' (low w''.heap.size) A' L (joinB l) ∧ L ≤ 1500 ∧ Kept w w'' :=
   (join_any A n c l w (by omega) hl).mono fun e w'' h => by
    rcases h with ⟨h, _⟩ | ⟨_, A', h1, h2, h3⟩
    ·exact absurd hj h
    ·exact ⟨A', _, h1, h2.keep (fun g hg => hg.2) (fun _ _ _ => rfl), hlen, h3⟩
  have hmod : ∀ w', Kept w w' → Calls Try.prog 13 #[.slice A n c] w' (ModelPost w' (parseS l).1 (parseS l).2) := fun w' hk => model_any A n c l w' hnc hc (hl.kept hk) hw (by omega)
  have hpar : ∀ w' (A' : Option Addr) (L : Nat), L ≤ 1500 → Sl u8T w' (low w'.heap.size) A' L (joinB l) → Calls Try.prog 14 #[.slice A' L L] w' (ParsePost w' (parseS l).1 (parseS l).2) := fun w' A' L hL hs => by
   have := parse_any A' L L (joinB l) w' (Nat.le_refl _) (by unfold maxLen; omega) hs
   rw [hpE, hpM] at this
   exact this
  have hpf := parse_fine hw
  clear hits hw hpE hpM hlen hl hj
  generalize joinB l = jb at *
  generalize parseS l = P at *
  obtain ⟨E, s⟩ := P
  have Hmod := hide hmod
  have Hpar := hide hpar
  have Hpf := hide hpf
  clear hmod hpar hpf
  go_upto_region 4 with (go_at_call 11; refine hjo.mono ?_; rintro e w1 ⟨A', L, rfl, hs1, hL, hk1⟩)
  have Hs1 := hide hs1
  clear hs1 hjo
  by_cases hE : E = 0
  ·subst hE
   have hmo : Calls Try.prog 13 #[.slice A n c] w1 fun e w' => ∃ Af nf Ac nc, e = .returned (.tuple #[.agg #[.slice Af s.fields.length nf, .slice Ac s.colls.length nc, .bool s.numbered], .int .i64 0]) ∧ Sl fdM w' (low w'.heap.size) Af s.fields.length s.fields ∧ Sl coT w' (low w'.heap.size) Ac s.colls.length s.colls ∧ Kept w1 w' :=
    (Hmod.out w1 hk1).mono fun e w' ⟨hk, h⟩ => by
     rcases h with ⟨h, _⟩ | ⟨_, Af, nf, Ac, nc, h1, h2, h3⟩
     ·exact absurd rfl h
     ·exact ⟨Af, nf, Ac, nc, h1, h2, h3, hk⟩
   obtain ⟨hsz, hpo, hcl⟩ := Hpf.out rfl
   have hfl := hsz.1
   have Hsz := hide hsz
   have Hpo := hide hpo
   clear hsz hpo
   go_upto_region 7 with (go_at_call 13; refine hmo.mono ?_; rintro e w2 ⟨Af, nf, Ac, nc, rfl, hF1, hC1, hk2⟩)
   refine wp_at (fun W => W.heap[w2.heap.size]? = some (.cells #[.slice Af s.fields.length nf, .slice Ac s.colls.length nc, .bool s.numbered] 40 (0, 0)) ∧ Kept w2 W) ⟨heap_at _ rfl, by go_grown⟩ (fun W hW => ?_)
   obtain ⟨hB5, hkW⟩ := hW
   have HF1 := hide hF1
   have HC1 := hide hC1
   have HB5 := hide hB5
   clear hF1 hC1 hB5 hmo
   have hpa : Calls Try.prog 14 #[.slice A' L L] W fun e w' => ∃ Ag Ad, e = .returned (.tuple #[.agg #[.slice Ag s.fields.length s.fields.length, .slice Ad s.colls.length s.colls.length, .bool s.numbered], .int .i64 0]) ∧ Sl fdT w' (low w'.heap.size) Ag s.fields.length s.fields ∧ Sl coT w' (low w'.heap.size) Ad s.colls.length s.colls ∧ Kept W w' :=
    (Hpar.out W A' L hL (Hs1.out.kept (hk2.trans' hkW))).mono fun e w' ⟨hk, h⟩ => by
     rcases h with ⟨h, _⟩ | ⟨_, Ag, Ad, h1, h2, h3⟩
     ·exact absurd rfl h
     ·exact ⟨Ag, Ad, h1, h2, h3, hk⟩
   go_upto_region 8 with (go_at_call 14; refine hpa.mono ?_; rintro e w3 ⟨Ag, Ad, rfl, hF2, hC2, hk3⟩)
   refine wp_at (fun V => V.heap[w3.heap.size]? = some (.cells #[.slice Ag s.fields.length s.fields.length, .slice Ad s.colls.length s.colls.length, .bool s.numbered] 40 (0, 0)) ∧ Kept w3 V) ⟨heap_at _ rfl, by go_grown⟩ (fun V hV => ?_)
   obtain ⟨hB7, hkV⟩ := hV
   have hB5' := heap_kept (hk3.trans' hkV) HB5.out
   have a0 : V.cell? ⟨w2.heap.size, 0, none⟩ = some (.slice Af s.fields.length nf) := cell_heap hB5' (o := 0) rfl
   have a1 : V.cell? ⟨w2.heap.size, 1, none⟩ = some (.slice Ac s.colls.length nc) := cell_heap hB5' (o := 1) rfl
   have a2 : V.cell? ⟨w2.heap.size, 2, none⟩ = some (.bool s.numbered) := cell_heap hB5' (o := 2) rfl
   have al := heap_lt hB5'
   have b0 : V.cell? ⟨w3.heap.size, 0, none⟩ = some (.slice Ag s.fields.length s.fields.length) := cell_heap hB7 (o := 0) rfl
   have b1 : V.cell? ⟨w3.heap.size, 1, none⟩ = some (.slice Ad s.colls.length s.colls.length) := cell_heap hB7 (o := 1) rfl
   have b2 : V.cell? ⟨w3.heap.size, 2, none⟩ = some (.bool s.numbered) := cell_heap hB7 (o := 2) rfl
   have bl := heap_lt hB7
   have hF2' := hF2.kept hkV
   have hC2' := hC2.kept hkV
   have hk25 := (hkW.trans' hk3).trans' hkV
   have hun := unlike_eq Ag Af Ad Ac s.fields.length s.fields.length nf s.colls.length s.colls.length nc s.numbered s.fields s.colls V hfl hcl (sl_fdM hF2') (HF1.out.kept hk25) hC2' (HC1.out.kept hk25)
   have hap : ∀ w', Kept V w' → Calls Try.prog 16 #[.agg #[.slice Ag s.fields.length s.fields.length, .slice Ad s.colls.length s.colls.length, .bool s.numbered]] w' fun e w'' => e = .returned (.bool true) ∧ Kept w' w'' := fun w' hk => apart_any Ag Ad s.fields.length s.fields.length s.colls.length s.colls.length s.numbered s.fields w' Hsz.out Hpo.out (hF2'.kept hk)
   have HB7 := hide hB7
   have Hap := hide hap
   clear hF2 hC2 hF2' hC2' hpa hB7 hB5' hap
   go_wp2_with (first
    | (go_at_call 15; refine hun.mono ?_; rintro e w4 ⟨rfl, hk4⟩; obtain ⟨hcq, hfq⟩ := bcell hk4)
    | (go_at_call 16; refine (Hap.out _ hk4).mono ?_; rintro e w5 ⟨rfl, hk5⟩)
    | (go_at_call 8; refine (lives_any _).mono ?_; rintro e w6 ⟨rfl, hk6⟩))
   go_ret
   exact ⟨rfl, ((((hk1.trans' hk2).trans' hk25).trans' hk4).trans' hk5).trans' hk6⟩
  ·have hmo : Calls Try.prog 13 #[.slice A n c] w1 fun e w' => e = .returned (.tuple #[.agg #[.slice none 0 0, .slice none 0 0, .bool false], .int .i64 E]) ∧ Kept w1 w' :=
    (Hmod.out w1 hk1).mono fun e w' ⟨hk, h⟩ => by
     rcases h with ⟨_, h⟩ | ⟨h, _⟩
     ·exact ⟨h, hk⟩
     ·exact absurd h hE
   go_upto_region 7 with (go_at_call 13; refine hmo.mono ?_; rintro e w2 ⟨rfl, hk2⟩)
   refine wp_at (fun W => W.heap[w2.heap.size]? = some (.cells #[.slice none 0 0, .slice none 0 0, .bool false] 40 (0, 0)) ∧ Kept w2 W) ⟨heap_at _ rfl, by go_grown⟩ (fun W hW => ?_)
   obtain ⟨hB5, hkW⟩ := hW
   have HB5 := hide hB5
   clear hB5 hmo
   have hpa : Calls Try.prog 14 #[.slice A' L L] W fun e w' => e = .returned (.tuple #[.agg #[.slice none 0 0, .slice none 0 0, .bool false], .int .i64 E]) ∧ Kept W w' :=
    (Hpar.out W A' L hL (Hs1.out.kept (hk2.trans' hkW))).mono fun e w' ⟨hk, h⟩ => by
     rcases h with ⟨_, h⟩ | ⟨h, _⟩
     ·exact ⟨h, hk⟩
     ·exact absurd h hE
   go_upto_region 8 with (go_at_call 14; refine hpa.mono ?_; rintro e w3 ⟨rfl, hk3⟩)
   refine wp_at (fun V => V.heap[w3.heap.size]? = some (.cells #[.slice none 0 0, .slice none 0 0, .bool false] 40 (0, 0)) ∧ Kept w3 V) ⟨heap_at _ rfl, by go_grown⟩ (fun V hV => ?_)
   obtain ⟨hB7, hkV⟩ := hV
   have hB5' := heap_kept (hk3.trans' hkV) HB5.out
   have a0 : V.cell? ⟨w2.heap.size, 0, none⟩ = some (.slice none 0 0) := cell_heap hB5' (o := 0) rfl
   have a1 : V.cell? ⟨w2.heap.size, 1, none⟩ = some (.slice none 0 0) := cell_heap hB5' (o := 1) rfl
   have a2 : V.cell? ⟨w2.heap.size, 2, none⟩ = some (.bool false) := cell_heap hB5' (o := 2) rfl
   have al := heap_lt hB5'
   have b0 : V.cell? ⟨w3.heap.size, 0, none⟩ = some (.slice none 0 0) := cell_heap hB7 (o := 0) rfl
   have b1 : V.cell? ⟨w3.heap.size, 1, none⟩ = some (.slice none 0 0) := cell_heap hB7 (o := 1) rfl
   have b2 : V.cell? ⟨w3.heap.size, 2, none⟩ = some (.bool false) := cell_heap hB7 (o := 2) rfl
   have bl := heap_lt hB7
   have hk25 := (hkW.trans' hk3).trans' hkV
   have hun := unlike_eq none none none none 0 0 0 0 0 0 false [] [] V (by decide) (by decide) (Sl.nil _ _ _ _) (Sl.nil _ _ _ _) (Sl.nil _ _ _ _) (Sl.nil _ _ _ _)
   have hap : ∀ w', Calls Try.prog 16 #[.agg #[.slice none 0 0, .slice none 0 0, .bool false]] w' fun e w'' => e = .returned (.bool true) ∧ Kept w' w'' := fun w' => apart_any none none 0 0 0 0 false [] w' ⟨by simp, fun f hf => by cases hf⟩ (fun i f h => by simp at h) (Sl.nil _ _ _ _)
   have HB7 := hide hB7
   have Hap := hide hap
   clear hpa hB7 hB5' hap
   go_wp2_with (first
    | (go_at_call 15; refine hun.mono ?_; rintro e w4 ⟨rfl, hk4⟩; obtain ⟨hcq, hfq⟩ := bcell hk4)
    | (go_at_call 16; refine (Hap.out _).mono ?_; rintro e w5 ⟨rfl, hk5⟩)
    | (go_at_call 8; refine (lives_any _).mono ?_; rintro e w6 ⟨rfl, hk6⟩))
   go_ret
   exact ⟨rfl, ((((hk1.trans' hk2).trans' hk25).trans' hk4).trans' hk5).trans' hk6⟩
 ·have hjo : Calls Try.prog 11 #[.slice A n c] w fun e w'' => e = .returned (.tuple #[.slice none 0 0, .int .i64 (joinE l)]) ∧ Kept w w'' :=
   (join_any A n c l w (by omega) hl).mono fun e w'' h => by
    rcases h with ⟨_, h1, h2⟩ | ⟨h, _⟩
    ·exact ⟨h1, h2⟩
    ·exact absurd h hj
  obtain ⟨E, hE⟩ : ∃ E, joinE l = E := ⟨_, rfl⟩
  rw [hE] at hj hjo
  have hj2 : (E == 0) = false := beq_false_of_ne hj
  have hj3 : decide (E = 0) = false := decide_eq_false hj
  clear hE
  go_wp2_with (first | (go_at_call 11; refine hjo.mono ?_; rintro e w1 ⟨rfl, hk⟩) | (go_at_call 8; refine (lives_any _).mono ?_; rintro e w2 ⟨rfl, hk2⟩))
  go_ret
  exact ⟨rfl, hk.trans' hk2⟩
end Go.Proofs.Ytegdigfcgeoboaa
