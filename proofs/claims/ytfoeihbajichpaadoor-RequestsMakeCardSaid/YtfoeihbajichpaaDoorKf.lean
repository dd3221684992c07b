

/- The law's bytes of a request, and Decode. The numbers lie in their kinds. -/
import Derived.Test.YtfoeihbajichpaaDoorChecked
import Derived.Deep.RegionHeld3
import Derived.Deep.DrawnRows
import Derived.Deep.DeepCutAuto
import Derived.Deep.LoopGhost
import Derived.Outline
import Derived.Handy
import Derived.OwnWalk
import Derived.BigQuiet
import Derived.Deep.QuietTactic
import Derived.Laws.EntriesVeiled
import Derived.Test.YtfoeihbajichpaaDoorVa
import Derived.Test.YtfoeihbajichpaaDoorSn
set_option linter.unusedVariables false
set_option linter.unusedSimpArgs false
set_option linter.unusedSectionVars false
namespace Go.Proofs.YtfoeihbajichpaaDoor
open Go.RowKit Go.Lib Go.Maps Go.WideShapes
attribute [local go_sem ↓] Go.wp_at_zero Go.wp_at_succ

theorem bytes_of_row {w : World} {b : Nat} {r : Rq} (hok : r.ok) (h : w.heap[b]? = some (.cells ((encL r).map (Value.int .u8)).toArray 5 (0, 0))) : Bytes w b 0 (encB r) := fun i hi => by
  have hi8 : i < (encL r).length := hi
  rw [Nat.zero_add, cell_heap h (o := i) (v := .int .u8 (encL r)[i]) (by simp [List.getElem?_eq_getElem hi8])]
  have e1 : (encB r)[i] = u8B (encL r)[i] := by
    show ((encL r).map u8B).toArray[i]'(by simpa using hi8) = _
    simp
  have e2 : (((encB r)[i]).toNat : Int) = (encL r)[i] := by
    rw [e1, u8B_nat (encL_range hok _ (List.getElem_mem _)).1 (encL_range hok _ (List.getElem_mem _)).2]
  exact congrArg (fun n : Int => some (Value.int .u8 n)) e2.symm
set_option maxRecDepth 100000 in
theorem encoded_any (t c v x l : Int) (w : World) (hok : Rq.ok ⟨t, c, v, x, l⟩) :
    Calls Tryd.prog 24 #[.agg #[.int .u8 (t), .int .u8 (c), .int .u16 (v), .int .u16 (x), .int .u16 (l)]] w fun e w' => ∃ b, e = .returned (.slice (some ⟨b, 0, none⟩) 8 8) ∧ w.heap.size ≤ b ∧ Bytes w' b 0 (encB ⟨t, c, v, x, l⟩) ∧ Kept w w' := by
  have hok' := hok
  obtain ⟨⟨t0, t1⟩, ⟨c0, c1⟩, ⟨v0, v1⟩, ⟨x0, x1⟩, ⟨l0, l1⟩⟩ := hok
  dsimp only at t0 t1 c0 c1 v0 v1 x0 x1 l0 l1
  have a1 : 0 ≤ v % 256 := by omega
  have a2 : v % 256 < 256 := by omega
  have a3 : 0 ≤ v / 256 := by omega
  have a4 : v / 256 < 256 := by omega
  have b1 : 0 ≤ x % 256 := by omega
  have b2 : x % 256 < 256 := by omega
  have b3 : 0 ≤ x / 256 := by omega
  have b4 : x / 256 < 256 := by omega
  have d1 : 0 ≤ l % 256 := by omega
  have d2 : l % 256 < 256 := by omega
  have d3 : 0 ≤ l / 256 := by omega
  have d4 : l / 256 < 256 := by omega
  go_enter Tryd.func24, Tryd.ntmps24
  go_wp2
  go_ret
  have e1 : IntKind.u16.wrap (v.tdiv 256) % 256 = v / 256 := by rw [Int.tdiv_eq_ediv_of_nonneg v0, IntKind.wrap_u16]; omega
  have e2 : IntKind.u16.wrap (x.tdiv 256) % 256 = x / 256 := by rw [Int.tdiv_eq_ediv_of_nonneg x0, IntKind.wrap_u16]; omega
  have e3 : IntKind.u16.wrap (l.tdiv 256) % 256 = l / 256 := by rw [Int.tdiv_eq_ediv_of_nonneg l0, IntKind.wrap_u16]; omega
  have hz : (w.alloc (.cells #[.int .u8 (t), .int .u8 (c), .int .u16 (v), .int .u16 (x), .int .u16 (l)] 25)).heap.size = w.heap.size + 1 := by simp
  refine ⟨w.heap.size + 1, by simp, Nat.le_succ _, bytes_of_row hok' ?_, by go_grown⟩
  rw [e1, e2, e3, ← hz, heap_alloc_new]
  rfl

theorem or16' {a b : Int} (a0 : 0 ≤ a) (a1 : a < 256) (b0 : 0 ≤ b) (b1 : b < 256) : bits BinOp.or IntKind.u16 a (b * 256) = a + 256 * b := by
  obtain ⟨n, rfl⟩ := Int.eq_ofNat_of_zero_le a0
  obtain ⟨m, rfl⟩ := Int.eq_ofNat_of_zero_le b0
  have h1 : (BitVec.ofInt 16 ((m : Int) * 256)).toNat = m * 256 := by
    rw [show (m : Int) * 256 = ((m * 256 : Nat) : Int) by omega, BitVec.ofInt_natCast, BitVec.toNat_ofNat]; exact Nat.mod_eq_of_lt (by omega)
  have h2 : (BitVec.ofInt 16 (n : Int)).toNat = n := by
    rw [BitVec.ofInt_natCast, BitVec.toNat_ofNat]; exact Nat.mod_eq_of_lt (by omega)
  show IntKind.u16.wrap ((BitVec.ofInt 16 (n : Int) ||| BitVec.ofInt 16 ((m : Int) * 256)).toNat : Int) = _
  have h3 := Nat.two_pow_add_eq_or_of_lt (i := 8) (b := n) (by omega) m
  rw [BitVec.toNat_or, h1, h2, Nat.or_comm, Nat.mul_comm m 256, ← h3, IntKind.wrap_u16]
  omega
set_option maxRecDepth 100000 in
theorem two_2 (p o c box : Nat) (a b : Int) (w : World) (hX : w.cell? ⟨box, 0, none⟩ = some (.slice (some ⟨p, o, none⟩) 8 c)) (hA : w.cell? ⟨p, o + 2, none⟩ = some (.int .u8 a)) (hB : w.cell? ⟨p, o + 3, none⟩ = some (.int .u8 b)) (a0 : 0 ≤ a) (a1 : a < 256) (b0 : 0 ≤ b) (b1 : b < 256) :
    Calls Tryd.prog 46 #[.int .i64 2, .pointer (some ⟨box, 0, none⟩)] w fun e w' => e = .returned (.int .u16 (a + 256 * b)) ∧ ∃ n, w' = w.drewN n := by
  have HO := Lib.hid (or16' a0 a1 b0 b1)
  go_enter Tryd.func46, Tryd.ntmps46
  go_wp2
  go_quiet (fail)
  go_wp2
  go_ret
  exact ⟨ret_int HO.out, _, rfl⟩
set_option maxRecDepth 100000 in
theorem two_4 (p o c box : Nat) (a b : Int) (w : World) (hX : w.cell? ⟨box, 0, none⟩ = some (.slice (some ⟨p, o, none⟩) 8 c)) (hA : w.cell? ⟨p, o + 4, none⟩ = some (.int .u8 a)) (hB : w.cell? ⟨p, o + 5, none⟩ = some (.int .u8 b)) (a0 : 0 ≤ a) (a1 : a < 256) (b0 : 0 ≤ b) (b1 : b < 256) :
    Calls Tryd.prog 46 #[.int .i64 4, .pointer (some ⟨box, 0, none⟩)] w fun e w' => e = .returned (.int .u16 (a + 256 * b)) ∧ ∃ n, w' = w.drewN n := by
  have HO := Lib.hid (or16' a0 a1 b0 b1)
  go_enter Tryd.func46, Tryd.ntmps46
  go_wp2
  go_quiet (fail)
  go_wp2
  go_ret
  exact ⟨ret_int HO.out, _, rfl⟩
set_option maxRecDepth 100000 in
theorem two_6 (p o c box : Nat) (a b : Int) (w : World) (hX : w.cell? ⟨box, 0, none⟩ = some (.slice (some ⟨p, o, none⟩) 8 c)) (hA : w.cell? ⟨p, o + 6, none⟩ = some (.int .u8 a)) (hB : w.cell? ⟨p, o + 7, none⟩ = some (.int .u8 b)) (a0 : 0 ≤ a) (a1 : a < 256) (b0 : 0 ≤ b) (b1 : b < 256) :
    Calls Tryd.prog 46 #[.int .i64 6, .pointer (some ⟨box, 0, none⟩)] w fun e w' => e = .returned (.int .u16 (a + 256 * b)) ∧ ∃ n, w' = w.drewN n := by
  have HO := Lib.hid (or16' a0 a1 b0 b1)
  go_enter Tryd.func46, Tryd.ntmps46
  go_wp2
  go_quiet (fail)
  go_wp2
  go_ret
  exact ⟨ret_int HO.out, _, rfl⟩
theorem row_grown {X : Nat} (v : World) (p q r s t : Value) : v.grownBy (((((v.setCell ⟨X, 0, none⟩ p).setCell ⟨X, 1, none⟩ q).setCell ⟨X, 2, none⟩ r).setCell ⟨X, 3, none⟩ s).setCell ⟨X, 4, none⟩ t) (some X) := by
  have h : ∀ (w1 : World) (o : Nat) (u : Value), v.grownBy w1 (some X) → v.grownBy (w1.setCell ⟨X, o, none⟩ u) (some X) := fun w1 o u h =>
    ⟨h.os, h.tape, h.output, by rw [World.size_setCell]; exact h.size, fun k hk hne => (Below.heap_setCell _ _ _ k (fun e => hne (by rw [e]))).trans (h.block k hk hne)⟩
  exact h _ _ _ (h _ _ _ (h _ _ _ (h _ _ _ (h _ _ _ ⟨rfl, rfl, rfl, Nat.le_refl _, fun _ _ _ => rfl⟩))))
set_option maxRecDepth 100000 in
theorem decode_bad (A : Option Addr) (n c : Nat) (w : World) (hn : n ≠ 8) (hm : n ≤ 1000) :
    Calls Tryd.prog 23 #[.slice A n c] w fun e w' => e = .returned (.tuple #[.agg #[.int .u8 0, .int .u8 0, .int .u16 0, .int .u16 0, .int .u16 0], .int .i64 5]) ∧ Kept w w' := by
  have hb : (((n : Nat) : Int) != 8) = true := by simp; omega
  go_enter Tryd.func23, Tryd.ntmps23
  go_wp2
  refine bodyPost_ret (v := .tuple #[.agg #[.int .u8 0, .int .u8 0, .int .u16 0, .int .u16 0, .int .u16 0], .int .i64 5]) (by simp [results, Tryd.results23, go_sem]) rfl ⟨rfl, by go_grown⟩
theorem kept_drewN {w w1 : World} {n : Nat} (h : w1 = w.drewN n) : Kept w w1 := by subst h; exact below_drewN (Below.refl _ _) n
set_option maxRecDepth 100000 in
set_option maxHeartbeats 4000000 in
theorem decode_good (p o c : Nat) (y0 y1 y2 y3 y4 y5 y6 y7 : Int) (w : World)
    (h0 : w.cell? ⟨p, o + 0, none⟩ = some (.int .u8 y0)) (l0 : 0 ≤ y0) (u0 : y0 < 256)
    (h1 : w.cell? ⟨p, o + 1, none⟩ = some (.int .u8 y1)) (l1 : 0 ≤ y1) (u1 : y1 < 256)
    (h2 : w.cell? ⟨p, o + 2, none⟩ = some (.int .u8 y2)) (l2 : 0 ≤ y2) (u2 : y2 < 256)
    (h3 : w.cell? ⟨p, o + 3, none⟩ = some (.int .u8 y3)) (l3 : 0 ≤ y3) (u3 : y3 < 256)
    (h4 : w.cell? ⟨p, o + 4, none⟩ = some (.int .u8 y4)) (l4 : 0 ≤ y4) (u4 : y4 < 256)
    (h5 : w.cell? ⟨p, o + 5, none⟩ = some (.int .u8 y5)) (l5 : 0 ≤ y5) (u5 : y5 < 256)
    (h6 : w.cell? ⟨p, o + 6, none⟩ = some (.int .u8 y6)) (l6 : 0 ≤ y6) (u6 : y6 < 256)
    (h7 : w.cell? ⟨p, o + 7, none⟩ = some (.int .u8 y7)) (l7 : 0 ≤ y7) (u7 : y7 < 256)
    : Calls Tryd.prog 23 #[.slice (some ⟨p, o, none⟩) 8 c] w fun e w' => e = .returned (.tuple #[.agg #[.int .u8 (y0), .int .u8 (y1), .int .u16 (y2 + 256 * y3), .int .u16 (y4 + 256 * y5), .int .u16 (y6 + 256 * y7)], .int .i64 0]) ∧ Kept w w' := by
  have hp : p < w.heap.size := World.block_lt_of_cell? _ _ h0
  go_enter Tryd.func23, Tryd.ntmps23
  go_upto_region 4 with (fail)
  refine wp_at (fun W => W.heap[w.heap.size]? = some (.cells #[.slice (some ⟨p, o, none⟩) 8 c] 43 (0, 0)) ∧ W.heap[w.heap.size + 1]? = some (.cells #[.int .u8 0, .int .u8 0, .int .u16 0, .int .u16 0, .int .u16 0] 25 (0, 0)) ∧ Kept w W) ⟨heap_past (heap_at _ rfl), heap_at _ (by simp), by go_grown⟩ (fun W hW => ?_)
  obtain ⟨HB, HR, hkW⟩ := hW
  generalize hT : w.heap.size + 1 = T at *
  have hBT : w.heap.size ≠ T := by omega
  have hpT : p ≠ T := by omega
  have hBW := heap_lt HB
  have hTW := heap_lt HR
  have hpW : p < W.heap.size := Nat.lt_trans hp hBW
  have hwT : w.heap.size ≤ T := by omega
  have c0 := cell_heap HB (o := 0) rfl
  have g0 : W.cell? ⟨p, o + 0, none⟩ = some (.int .u8 y0) := (hkW.cell (p := ⟨p, o + 0, none⟩) hp).trans h0
  have g1 : W.cell? ⟨p, o + 1, none⟩ = some (.int .u8 y1) := (hkW.cell (p := ⟨p, o + 1, none⟩) hp).trans h1
  have g2 : W.cell? ⟨p, o + 2, none⟩ = some (.int .u8 y2) := (hkW.cell (p := ⟨p, o + 2, none⟩) hp).trans h2
  have g3 : W.cell? ⟨p, o + 3, none⟩ = some (.int .u8 y3) := (hkW.cell (p := ⟨p, o + 3, none⟩) hp).trans h3
  have g4 : W.cell? ⟨p, o + 4, none⟩ = some (.int .u8 y4) := (hkW.cell (p := ⟨p, o + 4, none⟩) hp).trans h4
  have g5 : W.cell? ⟨p, o + 5, none⟩ = some (.int .u8 y5) := (hkW.cell (p := ⟨p, o + 5, none⟩) hp).trans h5
  have g6 : W.cell? ⟨p, o + 6, none⟩ = some (.int .u8 y6) := (hkW.cell (p := ⟨p, o + 6, none⟩) hp).trans h6
  have g7 : W.cell? ⟨p, o + 7, none⟩ = some (.int .u8 y7) := (hkW.cell (p := ⟨p, o + 7, none⟩) hp).trans h7
  have g0' := g0
  rw [Nat.add_zero] at g0'
  clear h0 h1 h2 h3 h4 h5 h6 h7 HB hT hp
  refine wp_region_held_drew (S := But W T) (by kernel_rfl) But.start (fun hS => ?_)
  replace HR : W.drew.heap[T]? = _ := HR
  refine wpAnyH_take (i := 0) (v := ?_) rfl (by kernel_rfl) (by kernel_rfl) (by kernel_rfl) (fun _ _ _ h => h) (Or.inl ⟨by kernel_rfl, ?_⟩) hS ?_
  rotate_left
  · intro w' hS'
    have hq := hS'.1
    have hq2 := hS'.2
    clear hS'
    first | (go_simp; done) | (go_simp; with_reducible rfl)
  try simp only [Act.put, List.getElem_toArray, List.getElem_cons_zero, List.getElem_cons_succ, List.setIfInBounds_toArray, List.set_cons_zero, List.set_cons_succ]
  refine wpAnyH_take (i := 1) (v := ?_) rfl (by kernel_rfl) (by kernel_rfl) (by kernel_rfl) (fun _ _ _ h => h) (Or.inl ⟨by kernel_rfl, ?_⟩) hS ?_
  rotate_left
  · intro w' hS'
    have hq := hS'.1
    have hq2 := hS'.2
    clear hS'
    first | (go_simp; done) | (go_simp; with_reducible rfl)
  try simp only [Act.put, List.getElem_toArray, List.getElem_cons_zero, List.getElem_cons_succ, List.setIfInBounds_toArray, List.set_cons_zero, List.set_cons_succ]
  refine wpAnyH_take (i := 2) (v := ?_) rfl (by kernel_rfl) (by kernel_rfl) (by kernel_rfl) (fun _ _ _ h => h) (Or.inl ⟨by kernel_rfl, ?_⟩) hS ?_
  rotate_left
  · intro w' hS'
    have hq := hS'.1
    have hq2 := hS'.2
    clear hS'
    first | (go_simp; done) | (go_simp; with_reducible rfl)
  try simp only [Act.put, List.getElem_toArray, List.getElem_cons_zero, List.getElem_cons_succ, List.setIfInBounds_toArray, List.set_cons_zero, List.set_cons_succ]
  refine wpAnyH_take (i := 3) (v := ?_) rfl (by kernel_rfl) (by kernel_rfl) (by kernel_rfl) (fun _ _ _ h => h) (Or.inl ⟨by kernel_rfl, ?_⟩) hS ?_
  rotate_left
  · intro w' hS'
    have hq := hS'.1
    have hq2 := hS'.2
    clear hS'
    first | (go_simp; done) | (go_simp; with_reducible rfl)
  try simp only [Act.put, List.getElem_toArray, List.getElem_cons_zero, List.getElem_cons_succ, List.setIfInBounds_toArray, List.set_cons_zero, List.set_cons_succ]
  refine wpAnyH_take (i := 4) (v := ?_) rfl (by kernel_rfl) (by kernel_rfl) (by kernel_rfl) (fun _ _ _ h => h) (Or.inl ⟨by kernel_rfl, ?_⟩) hS ?_
  rotate_left
  · intro w' hS'
    have hq := hS'.1
    have hq2 := hS'.2
    clear hS'
    first | (go_simp; done) | (go_simp; with_reducible rfl)
  try simp only [Act.put, List.getElem_toArray, List.getElem_cons_zero, List.getElem_cons_succ, List.setIfInBounds_toArray, List.set_cons_zero, List.set_cons_succ]
  refine wpAnyH_take (i := 5) (v := ?_) rfl (by kernel_rfl) (by kernel_rfl) (by kernel_rfl) (fun _ _ _ h => h) (Or.inl ⟨by kernel_rfl, ?_⟩) hS ?_
  rotate_left
  · intro w' hS'
    have hq := hS'.1
    have hq2 := hS'.2
    clear hS'
    first | (go_simp; done) | (go_simp; with_reducible rfl)
  try simp only [Act.put, List.getElem_toArray, List.getElem_cons_zero, List.getElem_cons_succ, List.setIfInBounds_toArray, List.set_cons_zero, List.set_cons_succ]
  refine wpAnyH_take (i := 6) (v := ?_) rfl (by kernel_rfl) (by kernel_rfl) (by kernel_rfl) (fun _ _ _ h => h) (Or.inl ⟨by kernel_rfl, ?_⟩) hS ?_
  rotate_left
  · intro w' hS'
    have hq := hS'.1
    have hq2 := hS'.2
    clear hS'
    first | (go_simp; done) | (go_simp; with_reducible rfl)
  try simp only [Act.put, List.getElem_toArray, List.getElem_cons_zero, List.getElem_cons_succ, List.setIfInBounds_toArray, List.set_cons_zero, List.set_cons_succ]
  refine wpAnyH_take (i := 8) (v := ?_) rfl (by kernel_rfl) (by kernel_rfl) (by kernel_rfl) (fun _ _ _ h => h) (Or.inl ⟨by kernel_rfl, ?_⟩) hS ?_
  rotate_left
  · intro w' hS'
    have hq := hS'.1
    have hq2 := hS'.2
    clear hS'
    first | (go_simp; done) | (go_simp; with_reducible rfl)
  try simp only [Act.put, List.getElem_toArray, List.getElem_cons_zero, List.getElem_cons_succ, List.setIfInBounds_toArray, List.set_cons_zero, List.set_cons_succ]
  refine wpAnyH_take (i := 10) (v := ?_) rfl (by kernel_rfl) (by kernel_rfl) (by kernel_rfl) (fun _ _ _ h => h) (Or.inl ⟨by kernel_rfl, ?_⟩) hS ?_
  rotate_left
  · intro w' hS'
    have hq := hS'.1
    have hq2 := hS'.2
    clear hS'
    first | (go_simp; done) | (go_simp; with_reducible rfl)
  try simp only [Act.put, List.getElem_toArray, List.getElem_cons_zero, List.getElem_cons_succ, List.setIfInBounds_toArray, List.set_cons_zero, List.set_cons_succ]
  refine wpAnyH_ready (rs := [7]) (by kernel_rfl) (by simp) ?_
  refine AllReadyH.cons rfl (fun K hK => ?_) AllReadyH.nil
  go_simp
  go_at_call 46
  refine (two_2 p o c w.heap.size y2 y3 _ ((hS.1 _ 0 hBW hBT).trans c0) ((hS.1 p (o + 2) hpW hpT).trans g2) ((hS.1 p (o + 3) hpW hpT).trans g3) l2 u2 l3 u3).mono ?_
  rintro e w5 ⟨rfl, n5, hn5⟩
  try dsimp only
  have k5 := hS.then (grown_of_kept (kept_drewN hn5) _)
  replace HR := heap_kept (kept_drewN hn5) HR
  refine hK.out _ _ ?_ (fun hS => ?_)
  · exact k5
  clear hK K k5 hn5
  try simp only [Act.put, List.getElem_toArray, List.getElem_cons_zero, List.getElem_cons_succ, List.setIfInBounds_toArray, List.set_cons_zero, List.set_cons_succ]
  refine wpAnyH_ready (rs := [9]) (by kernel_rfl) (by simp) ?_
  refine AllReadyH.cons rfl (fun K hK => ?_) AllReadyH.nil
  go_simp
  go_at_call 46
  refine (two_4 p o c w.heap.size y4 y5 _ ((hS.1 _ 0 hBW hBT).trans c0) ((hS.1 p (o + 4) hpW hpT).trans g4) ((hS.1 p (o + 5) hpW hpT).trans g5) l4 u4 l5 u5).mono ?_
  rintro e w5 ⟨rfl, n5, hn5⟩
  try dsimp only
  have k5 := hS.then (grown_of_kept (kept_drewN hn5) _)
  replace HR := heap_kept (kept_drewN hn5) HR
  refine hK.out _ _ ?_ (fun hS => ?_)
  · exact k5
  clear hK K k5 hn5
  try simp only [Act.put, List.getElem_toArray, List.getElem_cons_zero, List.getElem_cons_succ, List.setIfInBounds_toArray, List.set_cons_zero, List.set_cons_succ]
  refine wpAnyH_ready (rs := [11]) (by kernel_rfl) (by simp) ?_
  refine AllReadyH.cons rfl (fun K hK => ?_) AllReadyH.nil
  go_simp
  go_at_call 46
  refine (two_6 p o c w.heap.size y6 y7 _ ((hS.1 _ 0 hBW hBT).trans c0) ((hS.1 p (o + 6) hpW hpT).trans g6) ((hS.1 p (o + 7) hpW hpT).trans g7) l6 u6 l7 u7).mono ?_
  rintro e w5 ⟨rfl, n5, hn5⟩
  try dsimp only
  have k5 := hS.then (grown_of_kept (kept_drewN hn5) _)
  replace HR := heap_kept (kept_drewN hn5) HR
  refine hK.out _ _ ?_ (fun hS => ?_)
  · exact k5
  clear hK K k5 hn5
  try simp only [Act.put, List.getElem_toArray, List.getElem_cons_zero, List.getElem_cons_succ, List.setIfInBounds_toArray, List.set_cons_zero, List.set_cons_succ]
  refine wpAnyH_take (i := 12) (v := ?_) rfl (by kernel_rfl) (by kernel_rfl) (by kernel_rfl) (fun _ _ _ h => h) (Or.inl ⟨by kernel_rfl, ?_⟩) hS ?_
  rotate_left
  · intro w' hS'
    have hq := hS'.1
    have hq2 := hS'.2
    clear hS'
    first | (go_simp; done) | (go_simp; with_reducible rfl)
  try simp only [Act.put, List.getElem_toArray, List.getElem_cons_zero, List.getElem_cons_succ, List.setIfInBounds_toArray, List.set_cons_zero, List.set_cons_succ]
  refine wpAnyH_ready (rs := [13]) (by kernel_rfl) (by simp) ?_
  refine AllReadyH.cons rfl (fun K hK => ?_) AllReadyH.nil
  have q0 := cell_heap HR (o := 0) rfl
  have q1 := cell_heap HR (o := 1) rfl
  have q2 := cell_heap HR (o := 2) rfl
  have q3 := cell_heap HR (o := 3) rfl
  have q4 := cell_heap HR (o := 4) rfl
  have z0 := frozen_heap HR (o := 0)
  have z1 := frozen_heap HR (o := 1)
  have z2 := frozen_heap HR (o := 2)
  have z3 := frozen_heap HR (o := 3)
  have z4 := frozen_heap HR (o := 4)
  go_simp
  have hz := row_kept (kept_but hkW hS.2 hwT) hwT HR (.int .u8 y0) (.int .u8 y1) (.int .u16 (y2 + 256 * y3)) (.int .u16 (y4 + 256 * y5)) (.int .u16 (y6 + 256 * y7))
  have hbS := hS.then (row_grown (X := T) w5 (.int .u8 y0) (.int .u8 y1) (.int .u16 (y2 + 256 * y3)) (.int .u16 (y4 + 256 * y5)) (.int .u16 (y6 + 256 * y7)))
  generalize (((((w5.setCell ⟨T, 0, none⟩ (.int .u8 y0)).setCell ⟨T, 1, none⟩ (.int .u8 y1)).setCell ⟨T, 2, none⟩ (.int .u16 (y2 + 256 * y3))).setCell ⟨T, 3, none⟩ (.int .u16 (y4 + 256 * y5))).setCell ⟨T, 4, none⟩ (.int .u16 (y6 + 256 * y7))) = w9 at *
  obtain ⟨hk9, h9⟩ := hz
  refine hK.out _ _ ?_ (fun hS => ?_)
  · exact hbS
  clear hK K hbS q0 q1 q2 q3 q4 z0 z1 z2 z3 z4 HR
  try simp only [Act.put, List.getElem_toArray, List.getElem_cons_zero, List.getElem_cons_succ, List.setIfInBounds_toArray, List.set_cons_zero, List.set_cons_succ]
  refine wpAnyH_take (i := 14) (v := ?_) rfl (by kernel_rfl) (by kernel_rfl) (by kernel_rfl) (fun _ _ _ h => h) (Or.inl ⟨by kernel_rfl, ?_⟩) hS ?_
  rotate_left
  · intro w' hS'
    have hq := hS'.1
    have hq2 := hS'.2
    clear hS'
    first | (go_simp; done) | (go_simp; with_reducible rfl)
  try simp only [Act.put, List.getElem_toArray, List.getElem_cons_zero, List.getElem_cons_succ, List.setIfInBounds_toArray, List.set_cons_zero, List.set_cons_succ]
  refine wpAnyH_done (by kernel_rfl) ?_ _
  clear hS c0 g0 g0' g1 g2 g3 g4 g5 g6 g7
  have d0 := cell_heap h9 (o := 0) rfl
  have d1 := cell_heap h9 (o := 1) rfl
  have d2 := cell_heap h9 (o := 2) rfl
  have d3 := cell_heap h9 (o := 3) rfl
  have d4 := cell_heap h9 (o := 4) rfl
  go_wp2
  refine bodyPost_ret (v := .tuple #[.agg #[.int .u8 (y0), .int .u8 (y1), .int .u16 (y2 + 256 * y3), .int .u16 (y4 + 256 * y5), .int .u16 (y6 + 256 * y7)], .int .i64 0]) (by simp [results, Tryd.results23, go_sem, d0, d1, d2, d3, d4]) rfl ⟨rfl, hk9⟩
end Go.Proofs.YtfoeihbajichpaaDoor
