
/- lives: the chapter's examples. -/
import Derived.Test.YtdkinfglpnajmaaChecked
import Derived.Deep.RegionHeld3
import Derived.Deep.DrawnRows
import Derived.Deep.DeepCutAuto
import Derived.Deep.LoopGhost
import Derived.Outline
import Derived.Handy
import Derived.OwnWalk
import Derived.IntWalk
import Derived.Lib.SlBytesConst
import Derived.Lib.SmallJoins
import Derived.Test.YtdkinfglpnajmaaGw
import Derived.Test.YtdkinfglpnajmaaGd
set_option linter.unusedVariables false
set_option linter.unusedSimpArgs false
set_option linter.unusedSectionVars false
namespace Go.Proofs.Ytdkinfglpnajmaa
open Go.RowKit
attribute [local go_sem ↓] Go.wp_at_zero Go.wp_at_succ

theorem sl_new {w : World} {cs : Array Value} {t : TypeId} {zs : List Int} (h : cs.toList = zs.map fun z => .int .i64 z) : Sl inT (w.alloc (.cells cs t)) (low (w.alloc (.cells cs t)).heap.size) (some ⟨w.heap.size, 0, none⟩) zs.length zs := by
  refine ⟨rfl, fun i z hz => ⟨w.heap.size, 0, [.int .i64 z], rfl, by simp, ⟨rfl, trivial⟩, fun j v hv => ?_⟩⟩
  match j, hv with
  | 0, hv =>
    cases hv
    rw [cell_of_row _ _ _ _ _ _ (heap_at (w := w) _ rfl)]
    have h2 : cs.toList[i]? = some (.int .i64 z) := by rw [h, List.getElem?_map, hz]; rfl
    simpa [inT, Ty.flat] using h2
theorem pcs_new {w : World} {cs : Array Value} {l : List Pc} (h : cs.toList = pcC l) (hl : l.length ≤ 1000) : Sl pcT (w.alloc (.cells cs 44)) (low (w.alloc (.cells cs 44)).heap.size) (some ⟨w.heap.size, 0, none⟩) l.length l := by
  have hn := pcC_len l
  have hsz : cs.size = l.length * 2 := by rw [← hn, ← h]; simp
  exact (own_of_pcs (w := w.alloc (.cells cs 44)) (base := 0) (v := .slice (some ⟨w.heap.size, 0, none⟩) l.length l.length) ⟨hn, .inr ⟨w.heap.size, l.length, cs, rfl, Nat.zero_le _, heap_at _ rfl, Nat.le_refl _, by unfold maxLen; omega, hsz, by rw [h, List.take_of_length_le (by omega)]⟩⟩).sl
theorem u8_new {w : World} {cs : Array Value} {t : TypeId} {fr : Nat × Nat} {bs : List UInt8} (h : cs.toList = u8C bs) : Sl u8T (w.alloc (.cells cs t fr)) (low (w.alloc (.cells cs t fr)).heap.size) (some ⟨w.heap.size, 0, none⟩) bs.length bs :=
  sl_u8 rfl (fun j x hx => ⟨w.heap.size, 0, rfl, by simp, by
    rw [cell_of_row _ _ _ _ _ _ (heap_at (w := w) _ rfl)]
    have h2 : cs.toList[j]? = some (.int .u8 (x.toNat : Int)) := by rw [h]; simp [u8C, hx]
    simpa using h2⟩)
theorem kalloc (w : World) (o : Obj) : Kept w (w.alloc o) := (Below.refl _ w).alloc (Nat.le_refl _) o
theorem pc_cells {w : World} {b off n k : Nat} {l : List Pc} (h : Sl pcT w (low w.heap.size) (some ⟨b, off, none⟩) n l) {p : Pc} (hk : l[k]? = some p) : w.cell? ⟨b, off + k * 2, none⟩ = some (.int .i64 p.pos) ∧ w.cell? ⟨b, off + k * 2 + 1, none⟩ = some (.int .i64 p.len) := by
  have hlt : k < n := by rw [← h.1]; exact (List.getElem?_eq_some_iff.1 hk).1
  obtain ⟨q, b', off', hx, hA, _, _, c0, c1⟩ := pc_at h (Below.refl _ w) hlt
  cases hA
  rw [hk] at hx
  cases hx
  exact ⟨c0, c1⟩
set_option maxRecDepth 100000 in
set_option maxHeartbeats 8000000 in
theorem lives_any (w : World) : Calls Try.prog 16 #[] w fun e w' => e = .returned (.bool true) ∧ Kept w w' := by
  have kc := fun (w : World) (C : Array Value) (n c : Nat) => Lib.run_convert_bytes_const (P := Try.prog) w 29 5 C n c Try.underlying29 Try.underlying5
  have kc1 := fun (o : Obj) (C : Array Value) (n c : Nat) => Go.Joins.run_convert_bytes_const_at (P := Try.prog) (w.alloc o) 29 5 C n c (w.heap.size + 1) (by simp) Try.underlying29 Try.underlying5
  go_enter Try.func16, Try.ntmps16
  go_upto_region 3 with fail
  refine wp_at (fun W => Ex w.heap.size (w.heap.size + 1) W ∧ Kept w W) ⟨⟨(pcs_new (l := LL) rfl (by decide)).kept (kalloc _ _), heap_bs (bs := MS) (fr := (6, 7)) (heap_at _ (by simp))⟩, (kalloc _ _).trans' (kalloc _ _)⟩ (fun W hW => ?_)
  obtain ⟨hE, kE⟩ := hW
  clear kc1
  go_upto_region 7 with (first
    | (go_at_call 12; refine (x_gather hE).mono ?_; rintro e w3 ⟨g3, rfl, bs3, k3⟩)
    | (go_at_call 18; refine (x_cut (hE.kept k3)).mono ?_; rintro e w4 ⟨A4, rfl, s4, k4⟩)
    | (go_at_call 21; refine (x_packets (hE.kept (k3.trans' k4))).mono ?_; rintro e w5 ⟨b5, o5, A50, A51, rfl, l5, c5, s50, s51, k5⟩)
    | (go_at_call 17; refine (x_scat (hE.kept (((k3.trans' k4).trans' k5).trans' (kalloc _ _))) (u8_new (bs := XS) rfl)).mono ?_; rintro e w6 ⟨g6, rfl, bs6, k6⟩))
  have k36 : Kept w3 w6 := (k4.trans' k5).trans' ((kalloc _ _).trans' k6)
  have k46 : Kept w4 w6 := k5.trans' ((kalloc _ _).trans' k6)
  have k56 : Kept w5 w6 := (kalloc _ _).trans' k6
  have kW6 : Kept W w6 := k3.trans' k36
  go_upto_region 9 with (first
    | (go_at_call 14; refine (x_len (hE.kept kW6)).mono ?_; rintro e w7 ⟨rfl, k7⟩)
    | (have h := k8; go_at_call 15; refine (x_check5 (hE.kept (kW6.trans' (k7.trans' k8)))).mono ?_; rintro e w9 ⟨rfl, k9⟩; have k69 : Kept w6 w9 := (k7.trans' k8).trans' k9; have cv3 := x_conv (n := 6) (c := 6) (bs3.kept (k36.trans' k69)) rfl)
    | (go_at_call 15; refine (x_check6 (hE.kept (kW6.trans' k7))).mono ?_; rintro e w8 ⟨rfl, k8⟩)
    | (go_at_call 11; refine (x_places (s4.kept (k46.trans' k69)) (by decide) (by decide) (by omega) p1).mono ?_; rintro e w10 ⟨A10, c10, rfl, s10, k10⟩)
    | (go_at_call 19; refine (same_yes A10 _ 3 c10 3 [4, 5, 0] _ (s10.kept (kalloc _ _)) (sl_new rfl) (by omega)).mono ?_; rintro e w11 ⟨rfl, k11⟩))
  have k911 : Kept w9 w11 := k10.trans' ((kalloc _ _).trans' k11)
  have k511 : Kept w5 w11 := k56.trans' (k69.trans' k911)
  have k611 : Kept w6 w11 := k69.trans' k911
  obtain ⟨d0, d1⟩ := c5 w11 k511
  have l11 : b5 < w11.heap.size := Nat.lt_of_lt_of_le l5 k511.size
  clear cv3 bs3 s4 kc
  go_upto_region 11 with (first
    | (have h := k13; go_at_call 11; refine (x_places (s51.kept k513) (by decide) (by decide) (by omega) p3).mono ?_; rintro e w14 ⟨A14, c14, rfl, s14, k14⟩)
    | (go_at_call 11; refine (x_places (s50.kept k511) (by decide) (by decide) (by omega) p2).mono ?_; rintro e w12 ⟨A12, c12, rfl, s12, k12⟩)
    | (have h := k14; go_at_call 19; refine (same_yes A14 _ 2 c14 2 [0, 1] _ (s14.kept (kalloc _ _)) (sl_new rfl) (by omega)).mono ?_; rintro e w15 ⟨rfl, k15⟩; have k1315 : Kept w13 w15 := k14.trans' ((kalloc _ _).trans' k15); have k615 : Kept w6 w15 := k611.trans' (k1113.trans' k1315); have cv9 := x_conv (n := 6) (c := 6) (bs6.kept k615) rfl; have cv2 := x_conv (n := 6) (c := 6) (hE.kept (kW6.trans' k615)).m rfl)
    | (go_at_call 19; refine (same_yes A12 _ 4 c12 4 [2, 3, 4, 5] _ (s12.kept (kalloc _ _)) (sl_new rfl) (by omega)).mono ?_; rintro e w13 ⟨rfl, k13⟩; have k1113 : Kept w11 w13 := k12.trans' ((kalloc _ _).trans' k13); have k513 : Kept w5 w13 := k511.trans' k1113; obtain ⟨f0, f1⟩ := c5 w13 k513; have l13 : b5 < w13.heap.size := Nat.lt_of_lt_of_le l5 k513.size))
  clear cv9 cv2 d0 d1 f0 f1 l11 l13 l5 c5 s50 s51 bs6
  have kW15 := kW6.trans' k615
  go_upto_region 14 with (first
    | (go_at_call 22; refine (x_join (hE.kept kW15)).mono ?_; rintro e w16 ⟨bj, oj, rfl, sj, k16⟩)
    | (go_at_call 23; refine (x_pages (hE.kept (kW15.trans' k16))).mono ?_; rintro e w17 ⟨bq, oq, rfl, sq, k17⟩)
    | (go_at_call 17; refine (x_there (hE.kept ((kW15.trans' k16).trans' (k17.trans' (kalloc _ _)))) (pcs_new (l := L2) rfl (by decide))).mono ?_; rintro e w18 ⟨rfl, k18⟩))
  have k1718 : Kept w17 w18 := (kalloc _ _).trans' k18
  have sj2 := sj.kept (k17.trans' k1718)
  have sq2 := sq.kept k1718
  obtain ⟨j0, j1⟩ := pc_cells sj2 (k := 0) rfl
  obtain ⟨j2, j3⟩ := pc_cells sj2 (k := 1) rfl
  obtain ⟨q0, q1⟩ := pc_cells sq2 (k := 0) rfl
  obtain ⟨q2, q3⟩ := pc_cells sq2 (k := 1) rfl
  obtain ⟨q4, q5⟩ := pc_cells sq2 (k := 2) rfl
  obtain ⟨q6, q7⟩ := pc_cells sq2 (k := 3) rfl
  simp only [Nat.zero_mul, Nat.add_zero, Nat.one_mul, Nat.reduceMul] at j0 j1 j2 j3 q0 q1 q2 q3 q4 q5 q6 q7
  have lj := World.block_lt_of_cell? w18 _ j0
  have lq := World.block_lt_of_cell? w18 _ q0
  have kEnd : Kept w w18 := kE.trans' (kW15.trans' (k16.trans' (k17.trans' k1718)))
  clear sj2 sq2
  trace_state
  go_wp2_with fail
  go_ret
  exact ⟨rfl, kEnd⟩
end Go.Proofs.Ytdkinfglpnajmaa
