/- The law of the chapter on reports, part 12: Sd. -/
import Derived.Test.YtegdigfcgeoboaaK4
set_option maxHeartbeats 16000000
set_option linter.unusedVariables false
set_option linter.unusedSimpArgs false
set_option linter.unusedSectionVars false
namespace Go.Proofs.Ytegdigfcgeoboaa
open Go.RowKit Go.Shelf
attribute [local go_sem] Oper.semAt_some
theorem wpIn_at {F : Fence} {n : Nat} {P : Program} {c : Code} {Q : Exit → Act → World → Prop} {a : Act} {w : World} (S : World → Prop) (h : S w) (k : ∀ W, S W → c.wpIn F n P Q a W) : c.wpIn F n P Q a w := k w h
structure Since (w : World) (Bb : Nat) (W : World) (v : Value) : Prop where
 os : W.os = w.os
 tape : W.tape = w.tape
 output : W.output = w.output
 size : w.heap.size ≤ W.heap.size
 block : ∀ k, k < w.heap.size → k ≠ Bb → W.heap[k]? = w.heap[k]?
 box : W.heap[Bb]? = some (.cells #[v] 23 (0, 0))
section
variable {w W W' : World} {Bb : Nat} {v : Value}
theorem Since.start (h : w.heap[Bb]? = some (.cells #[v] 23 (0, 0))) : Since w Bb w v := ⟨rfl, rfl, rfl, Nat.le_refl _, fun _ _ _ => rfl, h⟩
theorem Since.below (h : Since w Bb W v) (hk : Below w.heap.size W W') (hb : Bb < w.heap.size) : Since w Bb W' v :=
 ⟨hk.os.trans h.os, hk.tape.trans h.tape, hk.output.trans h.output, Nat.le_trans h.size hk.size, fun k h1 h2 => (hk.block k h1).trans (h.block k h1 h2), (hk.block Bb hb).trans h.box⟩
theorem Since.step (h : Since w Bb W v) (u : Value) : Since w Bb (W.setCell ⟨Bb, 0, none⟩ u) u :=
 ⟨h.os, h.tape, h.output, by rw [World.size_setCell]; exact h.size, fun k h1 h2 => (Below.heap_setCell _ _ _ k h2).trans (h.block k h1 h2), heap_store (i := 0) h.box u⟩
theorem Since.carry {β : Type} {J : β → World → Prop} {B : Nat} (h : Since w Bb W v) (hJ : AbidesFrom B J) (hJb : ∀ pre A u, J pre A → J pre (A.setCell ⟨Bb, 0, none⟩ u)) (hb : w.heap[Bb]? ≠ none) {c : Array Value} (hc : w.heap[Bb]? = some (.cells c 23 (0, 0))) (h1 : c.size = 1) {pre : β} (hj : J pre w) : J pre W := by
 refine hJ pre (w.setCell ⟨Bb, 0, none⟩ v) W none (hJb pre w v hj) ⟨h.os, h.tape, h.output, by rw [World.size_setCell]; exact h.size, fun k hk _ => ?_⟩ (fun r e => by cases e)
 rw [World.size_setCell] at hk
 by_cases hkb : k = Bb
 ·subst hkb
  rw [h.box, heap_store (i := 0) hc v]
  obtain ⟨l⟩ := c
  match l, h1 with
  | [x], _ => rfl
 ·rw [h.block k hk hkb, Below.heap_setCell _ _ _ k hkb]
end
theorem tailS (b off n c k : Nat) (hk : k ≤ n) (hc : n ≤ c) : ∃ o, (∀ W, (Instr.slice 23 (.slice (some ⟨b, off, none⟩) n c) (some (.int .i64 (k : Int))) none none).run Try.prog W = .ok (.slice (some ⟨b, o, none⟩) (n - k) (c - k)) W) ∧
  (∀ W, (Instr.sliceAt 23 (.slice (some ⟨b, off, none⟩) n c) (some (.int .i64 (k : Int))) none none).run Try.prog W = .ok (.slice (some ⟨b, o, none⟩) (n - k) (c - k)) W) ∧
  ∀ (W : World) (F : Nat → Prop) (xs : List Int), Sl u8T W F (some ⟨b, off, none⟩) n xs → Sl u8T W F (some ⟨b, o, none⟩) (n - k) (xs.drop k) := by
 have hel : Try.prog.elem 23 = 5 := by kernel_rfl
 have hs : ∀ W, (Instr.slice 23 (.slice (some ⟨b, off, none⟩) n c) (some (.int .i64 (k : Int))) none none).run Try.prog W = .ok (.slice (some ⟨b, if k = c then off else off + k, none⟩) (n - k) (c - k)) W := fun W => by
  rw [run_slice_l (w := W) 23 _ n c (by rw [hel]; exact Try.underlying23) .i64 k (by omega) (by omega), hel, Try.sizeOf5]
  by_cases hkc : k = c
  ·simp [sliced, hkc]
  ·simp [sliced, hkc, Ne.symm hkc, Addr.add_mid]
 refine ⟨_, hs, fun W => ?_, fun W F xs h => ?_⟩
 ·rw [run_sliceAt_slice (w := W) 23 _ _ _ _ (by rw [hel]; exact Try.underlying23), hs]
 ·by_cases hkc : k = c
  ·have h2 := h.drop (k := k)
   exact h2.empty (by omega) _
  ·rw [if_neg hkc]
   have h2 := h.drop (k := k)
   simpa [u8T, Ty.flat] using h2
set_option maxRecDepth 100000 in
theorem stepper_any (n : Nat) (hn : 1 ≤ n) (A : Option Addr) (m c : Nat) (bs : List Int) (B0 Bb : Nat) (w : World) (hm : m ≤ c) (hc : c ≤ maxLen) (hB : B0 ≤ Bb) (hbox : w.heap[Bb]? = some (.cells #[.slice A m c] 23 (0, 0))) (hl : Sl u8T w (low B0) A m bs) :
  Stepper n #[.pointer (some ⟨Bb, 0, none⟩)] (items bs) B0 Bb w := by
 intro l J Jx W hK hsz hJ hJb hY h0
 unfold maxLen at hc
 have hbox2 := hK.box.trans hbox
 have hl2 : Sl u8T W (low B0) A m bs := hl.below hK.low
 have hml := hl.1
 clear hbox hl hK
 refine callsIn_of_wp Try.func37 rfl trivial ?_ rfl
 (simp only [Try.ntmps37, List.size_toArray, List.length_cons, List.length_nil, Nat.reduceAdd, Nat.reduceSub, Array.replicate_succ, Array.replicate_zero, List.push_toArray, List.append_toArray, List.nil_append, List.cons_append])
 gi_wp2
 gi_loopg [3] m (fun gf _ wr => ∃ (rest : List Int) (pre : List It) (A' : Option Addr) (c' : Nat), rest.length = gf ∧ Hid (pre ++ items rest = items bs) ∧ wr.heap[Bb]? = some (.cells #[.slice A' gf c'] 23 (0, 0)) ∧ Sl u8T wr (low B0) A' gf rest ∧ gf ≤ c' ∧ c' ≤ 9223372036854775807 ∧ J pre wr)
 case atStart => exact ⟨bs, [], A, c, hml, hide rfl, hbox2, hl2, hm, hc, h0⟩
 case round =>
  obtain ⟨rest, pre, A', c', hrl, Hpre, hbx, hsl, hgc, hcm, hj⟩ := hrel
  have hbl := heap_lt hbx
  have hb0 := cell_heap hbx (o := 0) rfl
  cases rest with
  | nil =>
   have hg0 : gk = 0 := by simpa using hrl.symm
   subst hg0
   gi_wp2
   go_end0
   have e := Hpre.out
   rw [items_nil, List.append_nil] at e
   rw [← e]
   exact ⟨⟨_, rfl⟩, .inl hj⟩
  | cons h r =>
   have Hrl := hide hrl
   clear hrl
   have hg1 : 1 ≤ gk := by have := Hrl.out; simp at this; omega
   obtain ⟨hh, b0, off0, hx0, rfl, hbB, hbr, hhu, hc0⟩ := u8_at hsl (Below.refl _ wr) (show 0 < gk by omega)
   have hhe : hh = h := by simpa using hx0.symm
   subst hhe
   clear hx0
   rw [Nat.add_zero] at hc0
   unfold u8k at hhu
   obtain ⟨hu0, hu1⟩ := hhu
   have hgp : (0 : Int) < (gk : Int) := by omega
   have d4 : hh.tdiv 4 = hh / 4 := Int.tdiv_eq_ediv_of_nonneg hu0
   have d16 : hh.tdiv 16 = hh / 16 := Int.tdiv_eq_ediv_of_nonneg hu0
   have w4 : IntKind.u8.wrap (hh / 4) = hh / 4 := by rw [IntKind.wrap_u8]; omega
   have w16 : IntKind.u8.wrap (hh / 16) = hh / 16 := by rw [IntKind.wrap_u8]; omega
   have t4 : (hh / 4).tmod 4 = hh / 4 % 4 := Int.tmod_eq_emod_of_nonneg (by omega)
   obtain ⟨s, hs⟩ : ∃ s : Nat, hh % 4 = (s : Int) := ⟨(hh % 4).toNat, by omega⟩
   have hs4 : s < 4 := by omega
   have m4 : hh.tmod 4 = (s : Int) := by rw [← hs]; exact Int.tmod_eq_emod_of_nonneg hu0
   have wi : IntKind.i64.wrap (s : Int) = (s : Int) := by rw [IntKind.wrap_i64]; omega
   gi_wp2
   refine wpIn_wide.2 ?_
   refine wp_region_held_drew (S := fun w' => (∀ b o, b < wr.heap.size → w'.cell? ⟨b, o, none⟩ = wr.cell? ⟨b, o, none⟩) ∧ Below wr.heap.size wr w') (by kernel_rfl) since_start (fun hS => ?_)
   refine tk0 (i := 0) (v := ?_) rfl (by kernel_rfl) hS ?_ ?_
   rotate_left
   ·intro w' hq hq2; first | (go_simp; done) | (go_simp; with_reducible rfl)
   try simp only [Act.put, zp1, zp2, zp3, zp4, zp5, zp6]
   refine tk0 (i := 1) (v := ?_) rfl (by kernel_rfl) hS ?_ ?_
   rotate_left
   ·intro w' hq hq2; first | (go_simp; done) | (go_simp; with_reducible rfl)
   try simp only [Act.put, zp1, zp2, zp3, zp4, zp5, zp6]
   refine tk0 (i := 2) (v := ?_) rfl (by kernel_rfl) hS ?_ ?_
   rotate_left
   ·intro w' hq hq2; first | (go_simp; done) | (go_simp; with_reducible rfl)
   try simp only [Act.put, zp1, zp2, zp3, zp4, zp5, zp6]
   refine tk0 (i := 3) (v := ?_) rfl (by kernel_rfl) hS ?_ ?_
   rotate_left
   ·intro w' hq hq2; first | (go_simp; done) | (go_simp; with_reducible rfl)
   try simp only [Act.put, zp1, zp2, zp3, zp4, zp5, zp6]
   refine tk0 (i := 4) (v := ?_) rfl (by kernel_rfl) hS ?_ ?_
   rotate_left
   ·intro w' hq hq2; first | (go_simp; done) | (go_simp; with_reducible rfl)
   try simp only [Act.put, zp1, zp2, zp3, zp4, zp5, zp6]
   refine tk0 (i := 5) (v := ?_) rfl (by kernel_rfl) hS ?_ ?_
   rotate_left
   ·intro w' hq hq2; first | (go_simp; done) | (go_simp; with_reducible rfl)
   try simp only [Act.put, zp1, zp2, zp3, zp4, zp5, zp6]
   refine tk0 (i := 6) (v := ?_) rfl (by kernel_rfl) hS ?_ ?_
   rotate_left
   ·intro w' hq hq2; first | (go_simp; done) | (go_simp; with_reducible rfl)
   try simp only [Act.put, zp1, zp2, zp3, zp4, zp5, zp6]
   refine tk0 (i := 7) (v := ?_) rfl (by kernel_rfl) hS ?_ ?_
   rotate_left
   ·intro w' hq hq2; first | (go_simp; done) | (go_simp; with_reducible rfl)
   try simp only [Act.put, zp1, zp2, zp3, zp4, zp5, zp6]
   refine tk0 (i := 8) (v := ?_) rfl (by kernel_rfl) hS ?_ ?_
   rotate_left
   ·intro w' hq hq2; first | (go_simp; done) | (go_simp; with_reducible rfl)
   try simp only [Act.put, zp1, zp2, zp3, zp4, zp5, zp6]
   refine tk0 (i := 9) (v := ?_) rfl (by kernel_rfl) hS ?_ ?_
   rotate_left
   ·intro w' hq hq2; first | (go_simp; done) | (go_simp; with_reducible rfl)
   try simp only [Act.put, zp1, zp2, zp3, zp4, zp5, zp6]
   refine tk0 (i := 10) (v := ?_) rfl (by kernel_rfl) hS ?_ ?_
   rotate_left
   ·intro w' hq hq2; first | (go_simp; done) | (go_simp; with_reducible rfl)
   try simp only [Act.put, zp1, zp2, zp3, zp4, zp5, zp6]
   refine tk0 (i := 11) (v := ?_) rfl (by kernel_rfl) hS ?_ ?_
   rotate_left
   ·intro w' hq hq2; first | (go_simp; done) | (go_simp; with_reducible rfl)
   try simp only [Act.put, zp1, zp2, zp3, zp4, zp5, zp6]
   refine tk0 (i := 12) (v := ?_) rfl (by kernel_rfl) hS ?_ ?_
   rotate_left
   ·intro w' hq hq2; first | (go_simp; done) | (go_simp; with_reducible rfl)
   try simp only [Act.put, zp1, zp2, zp3, zp4, zp5, zp6]
   refine tk0 (i := 13) (v := ?_) rfl (by kernel_rfl) hS ?_ ?_
   rotate_left
   ·intro w' hq hq2; first | (go_simp; done) | (go_simp; with_reducible rfl)
   try simp only [Act.put, zp1, zp2, zp3, zp4, zp5, zp6]
   refine tk0 (i := 14) (v := ?_) rfl (by kernel_rfl) hS ?_ ?_
   rotate_left
   ·intro w' hq hq2; first | (go_simp; done) | (go_simp; with_reducible rfl)
   try simp only [Act.put, zp1, zp2, zp3, zp4, zp5, zp6]
   refine wpAnyH_ready (rs := [15]) (by kernel_rfl) (by simp) ?_
   refine AllReadyH.cons rfl (fun K hK => ?_) AllReadyH.nil
   go_simp
   refine hK.out _ _ ?_ (fun hS => ?_)
   ·exact since_alloc hS (Nat.le_refl _)
   clear hK K
   try simp only [Act.put, zp1, zp2, zp3, zp4, zp5, zp6]
   have HX : ((wr.alloc (.cells #[.int .u8 0, .int .u8 0, .int .i64 0, .int .u32 0] 29)).drew).heap[wr.heap.size]? = some (.cells #[.int .u8 0, .int .u8 0, .int .i64 0, .int .u32 0] 29 (0, 0)) := heap_drew (heap_at _ rfl)
   generalize ((wr.alloc (.cells #[.int .u8 0, .int .u8 0, .int .i64 0, .int .u32 0] 29)).drew) = w6 at *
   have x0 := cell_heap HX (o := 0) rfl
   have x1 := cell_heap HX (o := 1) rfl
   have x2 := cell_heap HX (o := 2) rfl
   have x3 := cell_heap HX (o := 3) rfl
   have z0 := frozen_heap HX (o := 0)
   have z1 := frozen_heap HX (o := 1)
   have z2 := frozen_heap HX (o := 2)
   have z3 := frozen_heap HX (o := 3)
   have hxl := heap_lt HX
   refine wpAnyH_ready (rs := [16]) (by kernel_rfl) (by simp) ?_
   refine AllReadyH.cons rfl (fun K hK => ?_) AllReadyH.nil
   go_simp
   have hS7 := since_below hS (((((Below.refl wr.heap.size w6).setCell (Nat.le_refl _) (p := ⟨wr.heap.size, 0, none⟩) (Value.int .u8 (hh / 4 % 4))).setCell (Nat.le_refl _) (p := ⟨wr.heap.size, 1, none⟩) (Value.int .u8 (hh / 16))).setCell (Nat.le_refl _) (p := ⟨wr.heap.size, 2, none⟩) (Value.int .i64 (s : Int))).setCell (Nat.le_refl _) (p := ⟨wr.heap.size, 3, none⟩) (Value.int .u32 0))
   have HX7 := heap_store (i := 3) (heap_store (i := 2) (heap_store (i := 1) (heap_store (i := 0) HX (Value.int .u8 (hh / 4 % 4))) (Value.int .u8 (hh / 16))) (Value.int .i64 (s : Int))) (Value.int .u32 0)
   generalize ((((w6.setCell ⟨wr.heap.size, 0, none⟩ (Value.int .u8 (hh / 4 % 4))).setCell ⟨wr.heap.size, 1, none⟩ (Value.int .u8 (hh / 16))).setCell ⟨wr.heap.size, 2, none⟩ (Value.int .i64 (s : Int))).setCell ⟨wr.heap.size, 3, none⟩ (Value.int .u32 0)) = w7 at *
   refine hK.out _ _ ?_ (fun hS => ?_)
   ·exact hS7
   clear hK K hS7 x0 x1 x2 x3 z0 z1 z2 z3 hxl HX
   try simp only [Act.put, zp1, zp2, zp3, zp4, zp5, zp6]
   refine wpAnyH_done (by kernel_rfl) ?_ _
   have HX8 : w7.heap[wr.heap.size]? = some (.cells #[.int .u8 (hh / 4 % 4), .int .u8 (hh / 16), .int .i64 (s : Int), .int .u32 0] 29 (0, 0)) := HX7
   have hk7 := hS.2
   have hsi := (Since.start hbx).below hk7 hbl
   have hsl7 : Sl u8T w7 (low B0) (some ⟨b0, off0, none⟩) gk (hh :: r) := hsl.keep (fun _ hb => hb) (fun b o hb => hk7.cell (p := ⟨b, o, none⟩) (by have : b < B0 := hb; show b < _; omega))
   obtain ⟨o1, ht1, ht1', hd1⟩ := tailS b0 off0 gk c' 1 hg1 hgc
   have ht1 : ∀ W, (Instr.slice 23 (.slice (some ⟨b0, off0, none⟩) gk c') (some (.int .i64 1)) none none).run Try.prog W = .ok (.slice (some ⟨b0, o1, none⟩) (gk - 1) (c' - 1)) W := ht1
   have ht1' : ∀ W, (Instr.sliceAt 23 (.slice (some ⟨b0, off0, none⟩) gk c') (some (.int .i64 1)) none none).run Try.prog W = .ok (.slice (some ⟨b0, o1, none⟩) (gk - 1) (c' - 1)) W := ht1'
   have hXB : wr.heap.size ≠ Bb := by omega
   have hcs : ∀ u, wr.heap[Bb]? = some (.cells #[u] 23 (0, 0)) → wr.heap[Bb]? ≠ none := fun u e h => by rw [e] at h; cases h
   have hcarry : Hid (∀ (E : World) (v : Value), Since wr Bb E v → J pre E) := hide (fun E v h => h.carry hJ hJb (hcs _ hbx) hbx rfl hj)
   clear hS HX7 hb0 hc0 hj
   generalize hXe : wr.heap.size = X at *
   have y0 := cell_heap HX8 (o := 0) rfl
   have y1 := cell_heap HX8 (o := 1) rfl
   have y2 := cell_heap HX8 (o := 2) rfl
   have y3 := cell_heap HX8 (o := 3) rfl
   have z2 := frozen_heap HX8 (o := 2)
   have z3 := frozen_heap HX8 (o := 3)
   have hxl := heap_lt HX8
   have q0 := cell_heap hsi.box (o := 0) rfl
   have q1 := frozen_heap hsi.box (o := 0)
   have hql := heap_lt hsi.box
   have hBX : ¬ Bb = X := fun e => hXB e.symm
   have hsl8 := hd1 w7 (low B0) _ hsl7
   have hrl : r.length = gk - 1 := by have := Hrl.out; simp only [List.length_cons] at this; omega
   clear hd1 hsl7
   by_cases hs3 : s = 3
   ·subst hs3
    have hsz : sizeH hh = 4 := by unfold sizeH; rw [if_pos (by omega)]
    have hXw : wr.heap.size ≤ X := by rw [hXe]; exact Nat.le_refl _
    have hbw : Bb < wr.heap.size := by rw [hXe]; exact hbl
    by_cases h3 : hh / 4 % 4 = 3
    ·have hb3 : (hh / 4 % 4 == 3) = true := by simpa using h3
     have hbad : endsH hh r = true := by simp [endsH, h3]
     have hit : pre ++ [badI] = items bs := by rw [← Hpre.out, items_bad hbad]
     obtain ⟨fn, tmps, assign, body, hy, hR⟩ := hY pre badI ((w7.setCell ⟨X, 2, none⟩ (.int .i64 4)).setCell ⟨Bb, 0, none⟩ (.slice (some ⟨b0, o1, none⟩) (gk - 1) (c' - 1))) (hcarry.out _ _ ((hsi.below ((Below.refl _ _).setCell hXw (p := ⟨X, 2, none⟩) (Value.int .i64 4)) hbw).step (Value.slice (some ⟨b0, o1, none⟩) (gk - 1) (c' - 1)))) (by rw [hit]; exact List.prefix_refl _)
     dsimp only [itV, badI] at hy
     gi_wp2
     refine hR.mono ?_
     rintro e W5 (⟨rfl, hJ5, hk5⟩ | ⟨rfl, hJx5⟩)
     ·gi_wp2
      refine bodyPost_ret (results_none rfl _ _ _) rfl ?_
      exact ⟨⟨_, rfl⟩, .inl (by rw [← hit]; exact hJ5)⟩
     ·gi_wp2
      refine bodyPost_ret (results_none rfl _ _ _) rfl ?_
      exact ⟨⟨_, rfl⟩, .inr ⟨_, by rw [hit]; exact List.prefix_refl _, hJx5⟩⟩
    ·have hb3 : (hh / 4 % 4 == 3) = false := by simpa using h3
     by_cases hlen : gk - 1 < 4
     ·have hlen' : ((gk - 1 : Nat) : Int) < 4 := by omega
      have hbad : endsH hh r = true := by unfold endsH; rw [hsz, hrl]; simp [hlen]
      have hit : pre ++ [badI] = items bs := by rw [← Hpre.out, items_bad hbad]
      obtain ⟨fn, tmps, assign, body, hy, hR⟩ := hY pre badI ((w7.setCell ⟨X, 2, none⟩ (.int .i64 4)).setCell ⟨Bb, 0, none⟩ (.slice (some ⟨b0, o1, none⟩) (gk - 1) (c' - 1))) (hcarry.out _ _ ((hsi.below ((Below.refl _ _).setCell hXw (p := ⟨X, 2, none⟩) (Value.int .i64 4)) hbw).step (Value.slice (some ⟨b0, o1, none⟩) (gk - 1) (c' - 1)))) (by rw [hit]; exact List.prefix_refl _)
      dsimp only [itV, badI] at hy
      gi_wp2
      refine hR.mono ?_
      rintro e W5 (⟨rfl, hJ5, hk5⟩ | ⟨rfl, hJx5⟩)
      ·gi_wp2
       refine bodyPost_ret (results_none rfl _ _ _) rfl ?_
       exact ⟨⟨_, rfl⟩, .inl (by rw [← hit]; exact hJ5)⟩
      ·gi_wp2
       refine bodyPost_ret (results_none rfl _ _ _) rfl ?_
       exact ⟨⟨_, rfl⟩, .inr ⟨_, by rw [hit]; exact List.prefix_refl _, hJx5⟩⟩
     ·have hlen' : 4 ≤ ((gk - 1 : Nat) : Int) := by omega
      have hgood : endsH hh r = false := by unfold endsH; rw [hsz, hrl]; simp [h3]; omega
      have hkn : 4 ≤ gk - 1 := by omega
      obtain ⟨hh1, hh2⟩ := head23 b0 o1 (gk - 1) (c' - 1) 4 (by omega)
      obtain ⟨o2, hg1', hg2', hd2⟩ := tailS b0 o1 (gk - 1) (c' - 1) 4 hkn (by omega)
      have hh1 : ∀ W, (Instr.slice 23 (.slice (some ⟨b0, o1, none⟩) (gk - 1) (c' - 1)) none (some (.int .i64 4)) none).run Try.prog W = .ok (.slice (some ⟨b0, o1, none⟩) 4 (c' - 1)) W := hh1
      have hh2 : ∀ W, (Instr.sliceAt 23 (.slice (some ⟨b0, o1, none⟩) (gk - 1) (c' - 1)) none (some (.int .i64 4)) none).run Try.prog W = .ok (.slice (some ⟨b0, o1, none⟩) 4 (c' - 1)) W := hh2
      have hg1' : ∀ W, (Instr.slice 23 (.slice (some ⟨b0, o1, none⟩) (gk - 1) (c' - 1)) (some (.int .i64 4)) none none).run Try.prog W = .ok (.slice (some ⟨b0, o2, none⟩) (gk - 1 - 4) (c' - 1 - 4)) W := hg1'
      have hg2' : ∀ W, (Instr.sliceAt 23 (.slice (some ⟨b0, o1, none⟩) (gk - 1) (c' - 1)) (some (.int .i64 4)) none none).run Try.prog W = .ok (.slice (some ⟨b0, o2, none⟩) (gk - 1 - 4) (c' - 1 - 4)) W := hg2'
      have hSE := ((hsi.below ((Below.refl _ _).setCell hXw (p := ⟨X, 2, none⟩) (Value.int .i64 4)) hbw).step (Value.slice (some ⟨b0, o1, none⟩) (gk - 1) (c' - 1)))
      have hslE : Sl u8T ((w7.setCell ⟨X, 2, none⟩ (.int .i64 4)).setCell ⟨Bb, 0, none⟩ (.slice (some ⟨b0, o1, none⟩) (gk - 1) (c' - 1))) (low B0) (some ⟨b0, o1, none⟩) (gk - 1) r := hsl8.keep (fun _ hb => hb) (fun b o hb => by have hb' : b < B0 := hb; first | exact World.cell?_setCell_other _ _ _ _ (fun e => by have := congrArg Addr.block e; simp only at this; omega) | rw [World.cell?_setCell_other _ _ _ _ (fun e => by have := congrArg Addr.block e; simp only at this; omega), World.cell?_setCell_other _ _ _ _ (fun e => by have := congrArg Addr.block e; simp only at this; omega)])
      have hslN : Sl u8T ((w7.setCell ⟨X, 2, none⟩ (.int .i64 4)).setCell ⟨Bb, 0, none⟩ (.slice (some ⟨b0, o1, none⟩) (gk - 1) (c' - 1))) (low (((w7.setCell ⟨X, 2, none⟩ (.int .i64 4)).setCell ⟨Bb, 0, none⟩ (.slice (some ⟨b0, o1, none⟩) (gk - 1) (c' - 1)))).heap.size) (some ⟨b0, o1, none⟩) 4 (r.take 4) := (hslE.take hkn).keep (fun b hb => by have hb' : b < B0 := hb; have := hSE.size; show b < _; omega) (fun _ _ _ => rfl)
      have hnum := callsIn_wide (n := n - 1).2 (number_any _ 4 (c' - 1) _ _ (by omega) hslN)
      have hrd := hd2 ((w7.setCell ⟨X, 2, none⟩ (.int .i64 4)).setCell ⟨Bb, 0, none⟩ (.slice (some ⟨b0, o1, none⟩) (gk - 1) (c' - 1))) (low B0) _ hslE
      have hxe : itemH hh r = ⟨hh / 4 % 4, hh / 16, 4, numB (r.take 4)⟩ := by unfold itemH; rw [hsz]; try rfl
      have hit : pre ++ (itemH hh r :: items (r.drop 4)) = items bs := by rw [← Hpre.out, items_good hgood, hsz]
      have hpf : pre ++ [itemH hh r] <+: items bs := ⟨items (r.drop 4), by rw [← hit, List.append_assoc]; rfl⟩
      have hS3 := (hSE.below ((Below.refl _ _).setCell (by rw [hXe]; exact Nat.le_refl _) (p := ⟨X, 3, none⟩) (Value.int .u32 (numB (r.take 4)))) (by rw [hXe]; exact hbl)).step (Value.slice (some ⟨b0, o2, none⟩) (gk - 1 - 4) (c' - 1 - 4))
      rw [hxe] at hpf
      obtain ⟨fn, tmps, assign, body, hy, hR⟩ := hY pre ⟨hh / 4 % 4, hh / 16, 4, numB (r.take 4)⟩ _ (hcarry.out _ _ hS3) hpf
      dsimp only [itV] at hy
      have HR := hide hR
      have Hit := hide hit
      have Hxe := hide hxe
      have Hrd := hide hrd
      have HS3 := hide hS3
      clear hR hit hxe hrd hS3 hSE hslE hslN hd2 hpf
      gi_wp2_with (refine ⟨trivial, ?_⟩; gi_at_call 38; refine hnum.mono ?_; rintro e W4 ⟨rfl, rfl⟩)
      refine HR.out.mono ?_
      rintro e W5 (⟨rfl, hJ5, hk5⟩ | ⟨rfl, hJx5⟩)
      ·gi_wp2
       go_roundg (gk - 1 - 4)
       case measure => omega
       case rel =>
        have hbx5 := hk5.box.trans HS3.out.box
        have hrd5 : Sl u8T W5 (low B0) (some ⟨b0, o2, none⟩) (gk - 1 - 4) (r.drop 4) := Hrd.out.keep (fun _ hb => hb) (fun b o hb => by
         have hb' : b < B0 := hb
         rw [hk5.low.cell (p := ⟨b, o, none⟩) hb', World.cell?_setCell_other _ _ _ _ (fun e => by have := congrArg Addr.block e; simp only at this; omega), World.cell?_setCell_other _ _ _ _ (fun e => by have := congrArg Addr.block e; simp only at this; omega)])
        exact ⟨r.drop 4, pre ++ [⟨hh / 4 % 4, hh / 16, 4, numB (r.take 4)⟩], some ⟨b0, o2, none⟩, c' - 1 - 4, by rw [List.length_drop]; omega, hide (by rw [← Hit.out, Hxe.out, List.append_assoc]; rfl), hbx5, hrd5, by omega, by omega, hJ5⟩
      ·gi_wp2
       refine bodyPost_ret (results_none rfl _ _ _) rfl ?_
       exact ⟨⟨_, rfl⟩, .inr ⟨_, ⟨items (r.drop 4), by rw [← Hit.out, Hxe.out, List.append_assoc]; rfl⟩, hJx5⟩⟩
   ·have hs3' : ((s : Int) == 3) = false := by simp; omega
    have hsz : sizeH hh = s := by unfold sizeH; rw [if_neg (by omega)]; omega
    by_cases h3 : hh / 4 % 4 = 3
    ·have hb3 : (hh / 4 % 4 == 3) = true := by simpa using h3
     have hbad : endsH hh r = true := by simp [endsH, h3]
     have hit : pre ++ [badI] = items bs := by rw [← Hpre.out, items_bad hbad]
     obtain ⟨fn, tmps, assign, body, hy, hR⟩ := hY pre badI (w7.setCell ⟨Bb, 0, none⟩ (.slice (some ⟨b0, o1, none⟩) (gk - 1) (c' - 1))) (hcarry.out _ _ (hsi.step (Value.slice (some ⟨b0, o1, none⟩) (gk - 1) (c' - 1)))) (by rw [hit]; exact List.prefix_refl _)
     dsimp only [itV, badI] at hy
     gi_wp2
     refine hR.mono ?_
     rintro e W5 (⟨rfl, hJ5, hk5⟩ | ⟨rfl, hJx5⟩)
     ·gi_wp2
      refine bodyPost_ret (results_none rfl _ _ _) rfl ?_
      exact ⟨⟨_, rfl⟩, .inl (by rw [← hit]; exact hJ5)⟩
     ·gi_wp2
      refine bodyPost_ret (results_none rfl _ _ _) rfl ?_
      exact ⟨⟨_, rfl⟩, .inr ⟨_, by rw [hit]; exact List.prefix_refl _, hJx5⟩⟩
    ·have hb3 : (hh / 4 % 4 == 3) = false := by simpa using h3
     by_cases hlen : gk - 1 < s
     ·have hlen' : ((gk - 1 : Nat) : Int) < (s : Int) := by omega
      have hbad : endsH hh r = true := by unfold endsH; rw [hsz, hrl]; simp [hlen]
      have hit : pre ++ [badI] = items bs := by rw [← Hpre.out, items_bad hbad]
      obtain ⟨fn, tmps, assign, body, hy, hR⟩ := hY pre badI (w7.setCell ⟨Bb, 0, none⟩ (.slice (some ⟨b0, o1, none⟩) (gk - 1) (c' - 1))) (hcarry.out _ _ (hsi.step (Value.slice (some ⟨b0, o1, none⟩) (gk - 1) (c' - 1)))) (by rw [hit]; exact List.prefix_refl _)
      dsimp only [itV, badI] at hy
      gi_wp2
      refine hR.mono ?_
      rintro e W5 (⟨rfl, hJ5, hk5⟩ | ⟨rfl, hJx5⟩)
      ·gi_wp2
       refine bodyPost_ret (results_none rfl _ _ _) rfl ?_
       exact ⟨⟨_, rfl⟩, .inl (by rw [← hit]; exact hJ5)⟩
      ·gi_wp2
       refine bodyPost_ret (results_none rfl _ _ _) rfl ?_
       exact ⟨⟨_, rfl⟩, .inr ⟨_, by rw [hit]; exact List.prefix_refl _, hJx5⟩⟩
     ·have hlen' : (s : Int) ≤ ((gk - 1 : Nat) : Int) := by omega
      have hgood : endsH hh r = false := by unfold endsH; rw [hsz, hrl]; simp [h3]; omega
      have hkn : s ≤ gk - 1 := by omega
      obtain ⟨hh1, hh2⟩ := head23 b0 o1 (gk - 1) (c' - 1) s (by omega)
      obtain ⟨o2, hg1', hg2', hd2⟩ := tailS b0 o1 (gk - 1) (c' - 1) s hkn (by omega)
      have hh1 : ∀ W, (Instr.slice 23 (.slice (some ⟨b0, o1, none⟩) (gk - 1) (c' - 1)) none (some (.int .i64 (s : Int))) none).run Try.prog W = .ok (.slice (some ⟨b0, o1, none⟩) s (c' - 1)) W := hh1
      have hh2 : ∀ W, (Instr.sliceAt 23 (.slice (some ⟨b0, o1, none⟩) (gk - 1) (c' - 1)) none (some (.int .i64 (s : Int))) none).run Try.prog W = .ok (.slice (some ⟨b0, o1, none⟩) s (c' - 1)) W := hh2
      have hg1' : ∀ W, (Instr.slice 23 (.slice (some ⟨b0, o1, none⟩) (gk - 1) (c' - 1)) (some (.int .i64 (s : Int))) none none).run Try.prog W = .ok (.slice (some ⟨b0, o2, none⟩) (gk - 1 - s) (c' - 1 - s)) W := hg1'
      have hg2' : ∀ W, (Instr.sliceAt 23 (.slice (some ⟨b0, o1, none⟩) (gk - 1) (c' - 1)) (some (.int .i64 (s : Int))) none none).run Try.prog W = .ok (.slice (some ⟨b0, o2, none⟩) (gk - 1 - s) (c' - 1 - s)) W := hg2'
      have hSE := (hsi.step (Value.slice (some ⟨b0, o1, none⟩) (gk - 1) (c' - 1)))
      have hslE : Sl u8T (w7.setCell ⟨Bb, 0, none⟩ (.slice (some ⟨b0, o1, none⟩) (gk - 1) (c' - 1))) (low B0) (some ⟨b0, o1, none⟩) (gk - 1) r := hsl8.keep (fun _ hb => hb) (fun b o hb => by have hb' : b < B0 := hb; first | exact World.cell?_setCell_other _ _ _ _ (fun e => by have := congrArg Addr.block e; simp only at this; omega) | rw [World.cell?_setCell_other _ _ _ _ (fun e => by have := congrArg Addr.block e; simp only at this; omega), World.cell?_setCell_other _ _ _ _ (fun e => by have := congrArg Addr.block e; simp only at this; omega)])
      have hslN : Sl u8T (w7.setCell ⟨Bb, 0, none⟩ (.slice (some ⟨b0, o1, none⟩) (gk - 1) (c' - 1))) (low ((w7.setCell ⟨Bb, 0, none⟩ (.slice (some ⟨b0, o1, none⟩) (gk - 1) (c' - 1)))).heap.size) (some ⟨b0, o1, none⟩) s (r.take s) := (hslE.take hkn).keep (fun b hb => by have hb' : b < B0 := hb; have := hSE.size; show b < _; omega) (fun _ _ _ => rfl)
      have hnum := callsIn_wide (n := n - 1).2 (number_any _ s (c' - 1) _ _ (by omega) hslN)
      have hrd := hd2 (w7.setCell ⟨Bb, 0, none⟩ (.slice (some ⟨b0, o1, none⟩) (gk - 1) (c' - 1))) (low B0) _ hslE
      have hxe : itemH hh r = ⟨hh / 4 % 4, hh / 16, (s : Int), numB (r.take s)⟩ := by unfold itemH; rw [hsz]; try rfl
      have hit : pre ++ (itemH hh r :: items (r.drop s)) = items bs := by rw [← Hpre.out, items_good hgood, hsz]
      have hpf : pre ++ [itemH hh r] <+: items bs := ⟨items (r.drop s), by rw [← hit, List.append_assoc]; rfl⟩
      have hS3 := (hSE.below ((Below.refl _ _).setCell (by rw [hXe]; exact Nat.le_refl _) (p := ⟨X, 3, none⟩) (Value.int .u32 (numB (r.take s)))) (by rw [hXe]; exact hbl)).step (Value.slice (some ⟨b0, o2, none⟩) (gk - 1 - s) (c' - 1 - s))
      rw [hxe] at hpf
      obtain ⟨fn, tmps, assign, body, hy, hR⟩ := hY pre ⟨hh / 4 % 4, hh / 16, (s : Int), numB (r.take s)⟩ _ (hcarry.out _ _ hS3) hpf
      dsimp only [itV] at hy
      have HR := hide hR
      have Hit := hide hit
      have Hxe := hide hxe
      have Hrd := hide hrd
      have HS3 := hide hS3
      clear hR hit hxe hrd hS3 hSE hslE hslN hd2 hpf
      gi_wp2_with (refine ⟨trivial, ?_⟩; gi_at_call 38; refine hnum.mono ?_; rintro e W4 ⟨rfl, rfl⟩)
      refine HR.out.mono ?_
      rintro e W5 (⟨rfl, hJ5, hk5⟩ | ⟨rfl, hJx5⟩)
      ·gi_wp2
       go_roundg (gk - 1 - s)
       case measure => omega
       case rel =>
        have hbx5 := hk5.box.trans HS3.out.box
        have hrd5 : Sl u8T W5 (low B0) (some ⟨b0, o2, none⟩) (gk - 1 - s) (r.drop s) := Hrd.out.keep (fun _ hb => hb) (fun b o hb => by
         have hb' : b < B0 := hb
         rw [hk5.low.cell (p := ⟨b, o, none⟩) hb', World.cell?_setCell_other _ _ _ _ (fun e => by have := congrArg Addr.block e; simp only at this; omega), World.cell?_setCell_other _ _ _ _ (fun e => by have := congrArg Addr.block e; simp only at this; omega)])
        exact ⟨r.drop s, pre ++ [⟨hh / 4 % 4, hh / 16, (s : Int), numB (r.take s)⟩], some ⟨b0, o2, none⟩, c' - 1 - s, by rw [List.length_drop]; omega, hide (by rw [← Hit.out, Hxe.out, List.append_assoc]; rfl), hbx5, hrd5, by omega, by omega, hJ5⟩
      ·gi_wp2
       refine bodyPost_ret (results_none rfl _ _ _) rfl ?_
       exact ⟨⟨_, rfl⟩, .inr ⟨_, ⟨items (r.drop s), by rw [← Hit.out, Hxe.out, List.append_assoc]; rfl⟩, hJx5⟩⟩
end Go.Proofs.Ytegdigfcgeoboaa
