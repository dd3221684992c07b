/- Unlike. -/
import Derived.Test.YtegdigfcgeoboaaChecked
import Derived.Deep.RegionHeld3
import Derived.Deep.DrawnRows
import Derived.Deep.DeepCutAuto
import Derived.Deep.LoopGhost
import Derived.Outline
import Derived.Handy
import Derived.OwnWalk
import Derived.BigQuiet
import Derived.Test.YtegdigfcgeoboaaN11
import Derived.Test.YtegdigfcgeoboaaMaK
set_option linter.unusedVariables false
set_option linter.unusedSimpArgs false
set_option linter.unusedSectionVars false
/- Equal fields whose usages may have room. -/
namespace Go.Proofs.Ytegdigfcgeoboaa
open Go.RowKit
attribute [local go_sem ↓] Go.wp_at_zero Go.wp_at_succ

set_option maxRecDepth 100000 in
set_option maxHeartbeats 4000000 in
theorem same_eqC (f : Fd) (A1 A2 : Option Addr) (c1 c2 : Nat) (w : World) (hn : f.usages.length ≤ maxLen) (h1 : Sl u32T w (low w.heap.size) A1 f.usages.length f.usages) (h2 : Sl u32T w (low w.heap.size) A2 f.usages.length f.usages) :
    Calls Try.prog 24 #[.agg (f.cellsC A1 c1).toArray, .agg (f.cellsC A2 c2).toArray] w fun e w' => e = .returned (.bool true) ∧ Kept w w' := by
  unfold maxLen at hn
  unfold Fd.cellsC
  obtain ⟨n, hn0⟩ : ∃ n, f.usages.length = n := ⟨_, rfl⟩
  rw [hn0] at hn h1 h2 ⊢
  have Hn := hide hn0
  clear hn0
  go_enter Try.func24, Try.ntmps24
  go_upto_region 3 with (fail)
  refine wp_at (fun W => W.heap[w.heap.size]? = some (.cells #[.int .u8 f.kind, .int .u8 f.report, .int .i64 f.parent, .slice A1 n c1, .int .i64 f.lo, .int .i64 f.hi, .int .i64 f.size, .int .i64 f.count, .int .i64 f.pos, .bool f.const, .bool f.array, .bool f.signed, .bool f.rel] 59 (0, 0)) ∧
      W.heap[w.heap.size + 1]? = some (.cells #[.int .u8 f.kind, .int .u8 f.report, .int .i64 f.parent, .slice A2 n c2, .int .i64 f.lo, .int .i64 f.hi, .int .i64 f.size, .int .i64 f.count, .int .i64 f.pos, .bool f.const, .bool f.array, .bool f.signed, .bool f.rel] 59 (0, 0)) ∧ Kept w W) ⟨heap_past (heap_at _ rfl), heap_at _ (by simp), by go_grown⟩ (fun W hW => ?_)
  obtain ⟨hB1, hB2, hkW⟩ := hW
  have HB1 := hide hB1
  have HB2 := hide hB2
  have HkW := hide hkW
  clear hB1 hB2 hkW
  go_wp2_with fail
  go_loopg [5] n (fun g s5 wr => ∃ i : Nat, i + g = n ∧ s5 = .int .i64 i ∧ Kept W wr)
  case atStart => exact ⟨0, by omega, rfl, Below.refl _ _⟩
  case round =>
    obtain ⟨i, hi, rfl, hk⟩ := hrel
    have Hi := hide hi
    have b1 := heap_kept hk HB1.out
    have b2 := heap_kept hk HB2.out
    have l1 := heap_lt b1
    have l2 := heap_lt b2
    have p0 : wr.cell? ⟨w.heap.size, 0, none⟩ = _ := cell_heap b1 (o := 0) rfl
    have p1 : wr.cell? ⟨w.heap.size, 1, none⟩ = _ := cell_heap b1 (o := 1) rfl
    have p2 : wr.cell? ⟨w.heap.size, 2, none⟩ = _ := cell_heap b1 (o := 2) rfl
    have p3 : wr.cell? ⟨w.heap.size, 3, none⟩ = some (.slice A1 n c1) := cell_heap b1 (o := 3) rfl
    have p4 : wr.cell? ⟨w.heap.size, 4, none⟩ = _ := cell_heap b1 (o := 4) rfl
    have p5 : wr.cell? ⟨w.heap.size, 5, none⟩ = _ := cell_heap b1 (o := 5) rfl
    have p6 : wr.cell? ⟨w.heap.size, 6, none⟩ = _ := cell_heap b1 (o := 6) rfl
    have p7 : wr.cell? ⟨w.heap.size, 7, none⟩ = _ := cell_heap b1 (o := 7) rfl
    have p8 : wr.cell? ⟨w.heap.size, 8, none⟩ = _ := cell_heap b1 (o := 8) rfl
    have p9 : wr.cell? ⟨w.heap.size, 9, none⟩ = _ := cell_heap b1 (o := 9) rfl
    have p10 : wr.cell? ⟨w.heap.size, 10, none⟩ = _ := cell_heap b1 (o := 10) rfl
    have p11 : wr.cell? ⟨w.heap.size, 11, none⟩ = _ := cell_heap b1 (o := 11) rfl
    have p12 : wr.cell? ⟨w.heap.size, 12, none⟩ = _ := cell_heap b1 (o := 12) rfl
    have q0 : wr.cell? ⟨w.heap.size + 1, 0, none⟩ = _ := cell_heap b2 (o := 0) rfl
    have q1 : wr.cell? ⟨w.heap.size + 1, 1, none⟩ = _ := cell_heap b2 (o := 1) rfl
    have q2 : wr.cell? ⟨w.heap.size + 1, 2, none⟩ = _ := cell_heap b2 (o := 2) rfl
    have q3 : wr.cell? ⟨w.heap.size + 1, 3, none⟩ = some (.slice A2 n c2) := cell_heap b2 (o := 3) rfl
    have q4 : wr.cell? ⟨w.heap.size + 1, 4, none⟩ = _ := cell_heap b2 (o := 4) rfl
    have q5 : wr.cell? ⟨w.heap.size + 1, 5, none⟩ = _ := cell_heap b2 (o := 5) rfl
    have q6 : wr.cell? ⟨w.heap.size + 1, 6, none⟩ = _ := cell_heap b2 (o := 6) rfl
    have q7 : wr.cell? ⟨w.heap.size + 1, 7, none⟩ = _ := cell_heap b2 (o := 7) rfl
    have q8 : wr.cell? ⟨w.heap.size + 1, 8, none⟩ = _ := cell_heap b2 (o := 8) rfl
    have q9 : wr.cell? ⟨w.heap.size + 1, 9, none⟩ = _ := cell_heap b2 (o := 9) rfl
    have q10 : wr.cell? ⟨w.heap.size + 1, 10, none⟩ = _ := cell_heap b2 (o := 10) rfl
    have q11 : wr.cell? ⟨w.heap.size + 1, 11, none⟩ = _ := cell_heap b2 (o := 11) rfl
    have q12 : wr.cell? ⟨w.heap.size + 1, 12, none⟩ = _ := cell_heap b2 (o := 12) rfl
    clear hi b1 b2
    by_cases hlt : i < n
    · obtain ⟨x, b, off, cs, hx, rfl, hbb, ⟨rfl, _⟩, hcs⟩ := (h1.kept (HkW.out.trans' hk)).at hlt
      obtain ⟨x', b', off', cs', hx', rfl, hbb', ⟨rfl, _⟩, hcs'⟩ := (h2.kept (HkW.out.trans' hk)).at hlt
      obtain rfl : x' = x := Option.some.inj (hx'.symm.trans hx)
      have x0 : wr.cell? ⟨b, off + i, none⟩ = some (.int .u32 x') := by have := hcs 0 _ rfl; simpa [u32T, Ty.flat] using this
      have y0 : wr.cell? ⟨b', off' + i, none⟩ = some (.int .u32 x') := by have := hcs' 0 _ rfl; simpa [u32T, Ty.flat] using this
      have hbl : b < wr.heap.size := hbb
      have hbl' : b' < wr.heap.size := hbb'
      have hi0 : (0 : Int) ≤ (i : Int) := by omega
      have hlt' : (i : Int) < (n : Int) := by omega
      clear hx hx' hcs hcs'
      go_wp2_with fail
      go_quiet (fail)
      go_wp2_with fail
      go_roundg (gk - 1)
      case measure => have := Hi.out; omega
      case rel => exact ⟨i + 1, by have := Hi.out; omega, by go_num, below_drewN hk _⟩
    · have hge : (n : Int) ≤ (i : Int) := by omega
      go_wp2_with fail
      go_ret
      exact ⟨rfl, HkW.out.trans' hk⟩
/-- a row of fields without room is a row of fields -/
theorem sl_fdM {w : World} {F : Nat → Prop} {A : Option Addr} {n : Nat} {l : List Fd} (h : Sl fdT w F A n l) : Sl fdM w F A n l := by
  refine ⟨h.1, fun i x hx => ?_⟩
  obtain ⟨b, off, cs, e, hb, ⟨A', hc, hu, hs⟩, hr⟩ := h.2 i x hx
  exact ⟨b, off, cs, e, hb, ⟨A', _, hc, Nat.le_refl _, hu, hs⟩, hr⟩
end Go.Proofs.Ytegdigfcgeoboaa
/- Unlike: maps that are equal have no difference. -/
namespace Go.Proofs.Ytegdigfcgeoboaa
open Go.RowKit
attribute [local go_sem ↓] Go.wp_at_zero Go.wp_at_succ

set_option maxRecDepth 100000 in
set_option maxHeartbeats 4000000 in
theorem unlike_eq (A1 A2 C1 C2 : Option Addr) (n c1 c2 m d1 d2 : Nat) (nb : Bool) (l : List Fd) (cl : List Co) (w : World) (hn : n ≤ 256) (hm : m ≤ 64)
    (h1 : Sl fdM w (low w.heap.size) A1 n l) (h2 : Sl fdM w (low w.heap.size) A2 n l) (g1 : Sl coT w (low w.heap.size) C1 m cl) (g2 : Sl coT w (low w.heap.size) C2 m cl) :
    Calls Try.prog 15 #[.agg #[.slice A1 n c1, .slice C1 m d1, .bool nb], .agg #[.slice A2 n c2, .slice C2 m d2, .bool nb]] w fun e w' => e = .returned (.int .i64 0) ∧ Kept w w' := by
  go_enter Try.func15, Try.ntmps15
  go_upto_region 4 with (fail)
  refine wp_at (fun W => W.heap[w.heap.size]? = some (.cells #[.slice A1 n c1, .slice C1 m d1, .bool nb] 40 (0, 0)) ∧ W.heap[w.heap.size + 1]? = some (.cells #[.slice A2 n c2, .slice C2 m d2, .bool nb] 40 (0, 0)) ∧ Kept w W) ⟨heap_past (heap_at _ rfl), heap_at _ (by simp), by go_grown⟩ (fun W hW => ?_)
  obtain ⟨hB1, hB2, hkW⟩ := hW
  have HB1 := hide hB1
  have HB2 := hide hB2
  have HkW := hide hkW
  clear hB1 hB2 hkW
  go_wp2_with fail
  go_loopg [5] n (fun g s5 wr => ∃ i : Nat, i + g = n ∧ s5 = .int .i64 i ∧ Kept W wr)
  case atStart => exact ⟨0, by omega, rfl, Below.refl _ _⟩
  case round =>
    obtain ⟨i, hi, rfl, hk⟩ := hrel
    have Hi := hide hi
    have b1 := heap_kept hk HB1.out
    have b2 := heap_kept hk HB2.out
    have l1 := heap_lt b1
    have l2 := heap_lt b2
    have p0 : wr.cell? ⟨w.heap.size, 0, none⟩ = some (.slice A1 n c1) := cell_heap b1 (o := 0) rfl
    have q0 : wr.cell? ⟨w.heap.size + 1, 0, none⟩ = some (.slice A2 n c2) := cell_heap b2 (o := 0) rfl
    have p1 : wr.cell? ⟨w.heap.size, 1, none⟩ = some (.slice C1 m d1) := cell_heap b1 (o := 1) rfl
    have q1 : wr.cell? ⟨w.heap.size + 1, 1, none⟩ = some (.slice C2 m d2) := cell_heap b2 (o := 1) rfl
    clear hi b1 b2
    by_cases hlt : i < n
    · obtain ⟨x, b, off, cs, hx, rfl, hbb, ⟨A, c, rfl, hu1, hu2, hs1⟩, hcs⟩ := (h1.kept (HkW.out.trans' hk)).at hlt
      obtain ⟨x', b', off', cs', hx', rfl, hbb', ⟨A', c', rfl, hu1', hu2', hs1'⟩, hcs'⟩ := (h2.kept (HkW.out.trans' hk)).at hlt
      obtain rfl : x' = x := Option.some.inj (hx'.symm.trans hx)
      have hcs1 : ∀ (j : Nat) v, (x'.cellsC A c)[j]? = some v → wr.cell? ⟨b, off + i * 13 + j, none⟩ = some v := fun j v h => hcs j v h
      have hcs2 : ∀ (j : Nat) v, (x'.cellsC A' c')[j]? = some v → wr.cell? ⟨b', off' + i * 13 + j, none⟩ = some v := fun j v h => hcs' j v h
      have x0 : wr.cell? ⟨b, off + i * 13, none⟩ = _ := hcs1 0 _ rfl
      have y0 : wr.cell? ⟨b', off' + i * 13, none⟩ = _ := hcs2 0 _ rfl
      have x1 := hcs1 1 _ rfl
      have y1 := hcs2 1 _ rfl
      have x2 := hcs1 2 _ rfl
      have y2 := hcs2 2 _ rfl
      have x3 := hcs1 3 _ rfl
      have y3 := hcs2 3 _ rfl
      have x4 := hcs1 4 _ rfl
      have y4 := hcs2 4 _ rfl
      have x5 := hcs1 5 _ rfl
      have y5 := hcs2 5 _ rfl
      have x6 := hcs1 6 _ rfl
      have y6 := hcs2 6 _ rfl
      have x7 := hcs1 7 _ rfl
      have y7 := hcs2 7 _ rfl
      have x8 := hcs1 8 _ rfl
      have y8 := hcs2 8 _ rfl
      have x9 := hcs1 9 _ rfl
      have y9 := hcs2 9 _ rfl
      have x10 := hcs1 10 _ rfl
      have y10 := hcs2 10 _ rfl
      have x11 := hcs1 11 _ rfl
      have y11 := hcs2 11 _ rfl
      have x12 := hcs1 12 _ rfl
      have y12 := hcs2 12 _ rfl
      have hbl : b < wr.heap.size := hbb
      have hbl' : b' < wr.heap.size := hbb'
      have hi0 : (0 : Int) ≤ (i : Int) := by omega
      have hlt' : (i : Int) < (n : Int) := by omega
      have Hs1 := hide hs1
      have Hs1' := hide hs1'
      have Hu := hide (Nat.le_trans hu1 hu2)
      clear hx hx' hcs hcs' hcs1 hcs2 hs1 hs1' hu1 hu2 hu1' hu2'
      have Hk0 := hide hk
      clear hk
      go_upto_region 6 with (fail)
      go_region_held3 (fun w' => (∀ b o, b < wr.heap.size → w'.cell? ⟨b, o, none⟩ = wr.cell? ⟨b, o, none⟩) ∧ Below wr.heap.size wr w') (first | assumption | exact since_start | exact since_keep (by assumption) (Nat.le_refl _) hk) ((go_at_call 24; refine (same_eqC x' A A' c c' _ Hu.out (by exact Hs1.out.kept ((Below.refl _ _).drew)) (by exact Hs1'.out.kept ((Below.refl _ _).drew))).mono ?_; rintro e w1 ⟨rfl, hk⟩))
      go_wp2_with fail
      go_roundg (gk - 1)
      case measure => have := Hi.out; omega
      case rel => exact ⟨i + 1, by have := Hi.out; omega, by go_num, since_kept Hk0.out (by assumption) (Nat.le_refl _)⟩
    · have hge : (n : Int) ≤ (i : Int) := by omega
      have Hk := hide hk
      clear hk
      go_upto_region 9 with (fail)
      refine wp_at (fun W3 => Kept W W3) Hk.out (fun W3 hk3 => ?_)
      go_loopg [6] m (fun g s6 wr => ∃ i : Nat, i + g = m ∧ s6 = .int .i64 i ∧ Kept W wr)
      case atStart => exact ⟨0, by omega, rfl, hk3⟩
      case round =>
        obtain ⟨j, hj, rfl, hk⟩ := hrel
        have Hj := hide hj
        have b1 := heap_kept hk HB1.out
        have b2 := heap_kept hk HB2.out
        have l1 := heap_lt b1
        have l2 := heap_lt b2
        have p1 : wr.cell? ⟨w.heap.size, 1, none⟩ = some (.slice C1 m d1) := cell_heap b1 (o := 1) rfl
        have q1 : wr.cell? ⟨w.heap.size + 1, 1, none⟩ = some (.slice C2 m d2) := cell_heap b2 (o := 1) rfl
        clear hj b1 b2 hlt hge
        by_cases hlt : j < m
        · obtain ⟨x, b, off, cs, hx, rfl, hbb, ⟨rfl, _⟩, hcs⟩ := (g1.kept (HkW.out.trans' hk)).at hlt
          obtain ⟨x', b', off', cs', hx', rfl, hbb', ⟨rfl, _⟩, hcs'⟩ := (g2.kept (HkW.out.trans' hk)).at hlt
          obtain rfl : x' = x := Option.some.inj (hx'.symm.trans hx)
          have hcs1 : ∀ (o : Nat) v, (x'.cells)[o]? = some v → wr.cell? ⟨b, off + j * 3 + o, none⟩ = some v := fun o v h => hcs o v h
          have hcs2 : ∀ (o : Nat) v, (x'.cells)[o]? = some v → wr.cell? ⟨b', off' + j * 3 + o, none⟩ = some v := fun o v h => hcs' o v h
          have x0 : wr.cell? ⟨b, off + j * 3, none⟩ = _ := hcs1 0 _ rfl
          have x1 := hcs1 1 _ rfl
          have x2 := hcs1 2 _ rfl
          have y0 : wr.cell? ⟨b', off' + j * 3, none⟩ = _ := hcs2 0 _ rfl
          have y1 := hcs2 1 _ rfl
          have y2 := hcs2 2 _ rfl
          have hbl : b < wr.heap.size := hbb
          have hbl' : b' < wr.heap.size := hbb'
          have hi0 : (0 : Int) ≤ (j : Int) := by omega
          have hlt' : (j : Int) < (m : Int) := by omega
          clear hx hx' hcs hcs' hcs1 hcs2
          go_upto_region 11 with (fail)
          go_quiet (fail)
          go_wp2_with fail
          go_roundg (gk - 1)
          case measure => have := Hj.out; omega
          case rel => exact ⟨j + 1, by have := Hj.out; omega, by go_num, below_drewN hk _⟩
        · have hge : (m : Int) ≤ (j : Int) := by omega
          go_wp2_with fail
          go_ret
          exact ⟨rfl, HkW.out.trans' hk⟩
end Go.Proofs.Ytegdigfcgeoboaa
