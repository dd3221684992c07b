

/- Gather. -/
import Derived.Test.YtdkinfglpnajmaaChecked
import Derived.Deep.RegionHeld3
import Derived.Deep.DrawnRows
import Derived.Deep.DeepCutAuto
import Derived.Deep.LoopGhost
import Derived.Outline
import Derived.Handy
import Derived.OwnWalk
import Derived.IntWalk
import Derived.Test.YtdkinfglpnajmaaPf
import Derived.Test.YtdkinfglpnajmaaGe
set_option linter.unusedVariables false
set_option linter.unusedSimpArgs false
set_option linter.unusedSectionVars false
namespace Go.Proofs.Ytdkinfglpnajmaa
open Go.RowKit
attribute [local go_sem ↓] Go.wp_at_zero Go.wp_at_succ

def u8C (l : List UInt8) : List Value := l.map fun b => .int .u8 (b.toNat : Int)
/-- the bytes bs lie in block b from off on -/
def Bs (w : World) (b off : Nat) (bs : List UInt8) : Prop := b < w.heap.size ∧ ∀ (j : Nat) (x : UInt8), bs[j]? = some x → w.cell? ⟨b, off + j, none⟩ = some (.int .u8 (x.toNat : Int))
theorem Bs.kept {w w' : World} {b off : Nat} {bs : List UInt8} (h : Bs w b off bs) (hk : Kept w w') : Bs w' b off bs :=
  ⟨Nat.lt_of_lt_of_le h.1 hk.size, fun j x hx => (hk.cell (p := ⟨b, off + j, none⟩) h.1).trans (h.2 j x hx)⟩
/-- the bytes of a list in a memory -/
def gath (ms : List UInt8) (l : List Pc) : List UInt8 := (places l).map fun a => ms.getD a.toNat 0
def part (ms : List UInt8) (p : Pc) : List UInt8 := (pl p).map fun a => ms.getD a.toNat 0
theorem part_len (ms : List UInt8) (p : Pc) : (part ms p).length = p.len.toNat := by simp [part, pl_len]
theorem part_at {ms : List UInt8} {p : Pc} {j : Nat} {x : UInt8} (h0 : 0 ≤ p.pos) (h : (part ms p)[j]? = some x) (hm : p.pos + p.len ≤ ms.length) : ms[p.pos.toNat + j]? = some x := by
  obtain ⟨hj, e⟩ := List.getElem?_eq_some_iff.1 h
  rw [part_len] at hj
  simp only [part, pl, List.getElem_map, List.getElem_range] at e
  rw [List.getD_eq_getElem?_getD] at e
  have e2 : (p.pos + (j : Int)).toNat = p.pos.toNat + j := by omega
  rw [e2, List.getElem?_eq_getElem (by omega)] at e
  rw [List.getElem?_eq_getElem (by omega)]
  simpa using e
theorem gath_take {ms : List UInt8} {l : List Pc} {k : Nat} {p : Pc} (h : l[k]? = some p) : gath ms (l.take (k + 1)) = gath ms (l.take k) ++ part ms p := by
  rw [gath, places_take h, List.map_append]
  rfl
theorem gath_len {ms : List UInt8} {l : List Pc} (h : okL l) : ((gath ms l).length : Int) = total l := by
  rw [gath, List.length_map, places_len h]
theorem made_len (z : Value) (hz : z.cells = #[z]) (n : Nat) : madeCells z.cells n = (([] : List Value) ++ List.replicate (n - 0) z).toArray := by
  rw [made_one z hz]
  simp
theorem makeG (T : Nat) (hT : T ≤ 65536) (W : World) : (Instr.makeSlice 29 (.int .i64 0) (.int .i64 (T : Int))).run Try.prog W = .ok (.slice (some ⟨W.heap.size, 0, none⟩) 0 T) (W.alloc (.cells (([] : List Value) ++ List.replicate (T - 0) (Value.int .u8 0)).toArray 5)) := by
  obtain ⟨i, hi, hz0, hz1, hz2⟩ := info_parts info5
  have hr := run_make (P := Try.prog) W 29 5 i _ Try.underlying29 hi hz0 .i64 .i64 0 T (by omega) (by omega) (by rw [hz2]; omega) (by omega)
  rw [hr, hz1, Int.toNat_natCast, Nat.mul_one, made_len _ rfl]
  rfl
theorem slice_run (gm q d a e : Nat) (h1 : a + e ≤ d) : ∃ off, (off = a ∨ e = 0) ∧ ∀ W, (Instr.slice 29 (.slice (some ⟨gm, 0, none⟩) q d) (some (.int .i64 (a : Int))) (some (.int .i64 ((a : Int) + (e : Int)))) none).run Try.prog W = .ok (.slice (some ⟨gm, off, none⟩) e (d - a)) W ∧
    (Instr.sliceAt 29 (.slice (some ⟨gm, 0, none⟩) q d) (some (.int .i64 (a : Int))) (some (.int .i64 ((a : Int) + (e : Int)))) none).run Try.prog W = .ok (.slice (some ⟨gm, off, none⟩) e (d - a)) W := by
  have d1 : (a : Int) ≤ (d : Int) := by omega
  have d2 : (a : Int) + (e : Int) ≤ (d : Int) := by omega
  have d3 : (a : Int) ≤ (a : Int) + (e : Int) := by omega
  have d4 : ((a : Int) + (e : Int)).toNat - a = e := by omega
  have d5 : (0 : Int) ≤ (a : Int) + (e : Int) := by omega
  have d6 : a ≤ ((a : Int) + (e : Int)).toNat := by omega
  by_cases had : d = a
  · refine ⟨0, .inr (by omega), fun W => ?_⟩
    have had2 : (d = a) = True := by simp [had]
    subst had
    constructor <;> go_simp
  · refine ⟨a, .inl rfl, fun W => ?_⟩
    constructor <;> go_simp
set_option maxRecDepth 100000 in
set_option maxHeartbeats 4000000 in
theorem gather_bad (M A : Option Addr) (q d n c : Nat) (l : List Pc) (w : World) (hl : Sl pcT w (low w.heap.size) A n l) (h64 : ∀ p ∈ l, i64 p.pos ∧ i64 p.len) (hn : n ≤ 1000) (hq : q ≤ 100000) (h0 : chk l q ≠ 0) :
    Calls Try.prog 12 #[.slice M q d, .slice A n c] w fun e w' => e = .returned (.tuple #[.slice none 0 0, .int .i64 (chk l q)]) ∧ Kept w w' := by
  have hC := check_any A n c l q w hl h64 (by unfold i64; omega) hn
  obtain ⟨e0, he⟩ : ∃ e, chk l q = e := ⟨_, rfl⟩
  rw [he] at hC h0 ⊢
  have h0' : (e0 != 0) = true := by simpa using h0
  clear he
  go_enter Try.func12, Try.ntmps12
  go_wp2_with (go_at_call 15; refine hC.mono ?_; rintro e w1 ⟨rfl, hk1⟩)
  go_ret2
  exact ⟨rfl, hk1⟩
set_option maxRecDepth 100000 in
set_option maxHeartbeats 4000000 in
theorem gather_ok (gm : Nat) (ms : List UInt8) (A : Option Addr) (q d n c : Nat) (l : List Pc) (w : World) (hl : Sl pcT w (low w.heap.size) A n l) (hM : Bs w gm 0 ms) (hqm : ms.length = q) (hq : q ≤ 100000) (hqd : q ≤ d) (hd : d ≤ maxLen) (h0 : chk l q = 0) :
    Calls Try.prog 12 #[.slice (some ⟨gm, 0, none⟩) q d, .slice A n c] w fun e w' => ∃ g, e = .returned (.tuple #[.slice (some ⟨g, 0, none⟩) (gath ms l).length (gath ms l).length, .int .i64 0]) ∧ w.heap.size ≤ g ∧ Bs w' g 0 (gath ms l) ∧ Kept w w' := by
  have hp := chk_parts h0
  have hok : okL l := fun p hp' => ⟨(hp.2.1 p hp').1, (hp.2.1 p hp').2.1⟩
  have hln := hl.1
  have hC := check_any A n c l q w hl (pc_64 h0 (by unfold i64; omega)) (by unfold i64; omega) (by omega)
  rw [h0] at hC
  have hT : ∀ w', Kept w w' → _ := fun w' hk => total_any A n c l w' (hl.kept hk) hok hp.2.2 (by omega)
  obtain ⟨T, hTe⟩ : ∃ T : Nat, total l = (T : Int) := ⟨(total l).toNat, by have := total_nonneg hok; omega⟩
  rw [hTe] at hT
  have hT5 : T ≤ 65536 := by have := hp.2.2; omega
  have hmk := makeG T hT5
  go_enter Try.func12, Try.ntmps12
  go_wp2_with (first
    | (go_at_call 15; refine hC.mono ?_; rintro e w1 ⟨rfl, hk1⟩)
    | (go_at_call 25; refine (hT _ hk1).mono ?_; rintro e w2 ⟨rfl, hk2⟩))
  have hbase := hk1.size
  have hbase2 := hk2.size
  have hk02 : Kept w w2 := hk1.trans' hk2
  have hn256 : n ≤ 256 := by have := hp.1; omega
  have Hp := Lib.hid hp
  obtain ⟨i5, hi5, hz50, hz51, hz52⟩ := info_parts info5
  have HT := Lib.hid hTe
  replace hln := Lib.hid hln
  clear hmk hp hTe hC hT
  go_loopg [7, 22] n (fun g s7 s22 wr => ∃ k m : Nat, k + g = n ∧ s22 = .int .i64 (k : Int) ∧ s7 = .slice (some ⟨w2.heap.size, 0, none⟩) m T ∧ Hid (Fill wr w2.heap.size 5 T (.int .u8 0) (u8C (gath ms (l.take k))) ∧ m = (gath ms (l.take k)).length) ∧ w2.heap.size < wr.heap.size ∧ Kept w wr)
  case atStart => exact ⟨0, 0, by omega, by rfl, by rfl, Lib.hid ⟨⟨heap_alloc_new w2 _, Nat.zero_le _⟩, rfl⟩, by simp, hk02.trans ((Below.refl _ _).alloc hk02.size _)⟩
  case round =>
    obtain ⟨k, m, hk, rfl, rfl, hFm, hGw, hkw⟩ := hrel
    by_cases hlt : k < n
    · obtain ⟨p, b, off, hx, rfl, hbb, hbw, c0, c1⟩ := pc_at hl hkw hlt
      have hpp := Hp.out.2.1 p (List.mem_of_getElem? hx)
      obtain ⟨a, ha⟩ : ∃ a : Nat, p.pos = (a : Int) := ⟨p.pos.toNat, by omega⟩
      obtain ⟨e, he⟩ : ∃ e : Nat, p.len = (e : Int) := ⟨p.len.toNat, by omega⟩
      have hae : a + e ≤ q := by omega
      have hroom : m + e ≤ T := by
        have h1 := (total_take_le hok (k + 1)).2
        rw [take_total hx, HT.out] at h1
        have h2 := gath_len (ms := ms) (l := l.take k) (fun q hq => hok q (List.mem_of_mem_take hq))
        have h3 := hFm.out.2
        omega
      have htk := Lib.hid (gath_take (ms := ms) hx)
      have hpt := Lib.hid (part_len ms p)
      have hpa := Lib.hid (fun j x h => part_at (ms := ms) (p := p) (j := j) (x := x) (by omega) h (by omega))
      have hlt' : (k : Int) < (n : Int) := by omega
      rw [ha] at c0
      rw [he] at c1
      replace ha := Lib.hid ha
      replace he := Lib.hid he
      clear hx hpp
      go_upto_region 8 with fail
      refine wp_at (fun W8 => W8.heap[wr.heap.size]? = some (.cells #[.int .i64 (a : Int), .int .i64 (e : Int)] 44 (0, 0)) ∧ Fill W8 w2.heap.size 5 T (.int .u8 0) (u8C (gath ms (l.take k))) ∧ w2.heap.size < W8.heap.size ∧ Kept w W8)
        ⟨heap_at _ rfl, ⟨heap_past hFm.out.1.1, hFm.out.1.2⟩, by simp; omega, hkw.alloc hkw.size _⟩ (fun W8 hW8 => ?_)
      obtain ⟨hb8, hF8, hG8, hk8⟩ := hW8
      obtain ⟨B, hB⟩ : ∃ B, wr.heap.size = B := ⟨_, rfl⟩
      have hBG : B ≠ w2.heap.size := by omega
      rw [hB] at hb8 ⊢
      have x0 : W8.cell? ⟨B, 0, none⟩ = some (.int .i64 (a : Int)) := cell_heap hb8 rfl
      have x1 : W8.cell? ⟨B, 1, none⟩ = some (.int .i64 (e : Int)) := cell_heap hb8 rfl
      have lB := heap_lt hb8
      have hHF8 := Lib.hid hF8
      clear hb8 hB c0 c1 hF8 hkw
      obtain ⟨off', hoff, hsl⟩ := slice_run gm q d a e (by omega)
      have hsl1 := fun W => (hsl W).1
      have hsl2 := fun W => (hsl W).2
      clear hsl
      have hml := Lib.hid (show m = (u8C (gath ms (l.take k))).length by rw [hFm.out.2]; simp [u8C])
      have hpl := Lib.hid (show (u8C (part ms p)).length = e by have h1 := hpt.out; rw [he.out] at h1; simp [u8C, h1])
      have hu8 := Lib.hid (show ∀ u ∈ u8C (part ms p), u.oneCell' = true from fun u hu => by
        obtain ⟨x, _, rfl⟩ := List.mem_map.1 hu
        rfl)
      have hnx := Lib.hid (show u8C (gath ms (l.take (k + 1))) = u8C (gath ms (l.take k)) ++ u8C (part ms p) by rw [htk.out]; simp [u8C])
      have hnl := Lib.hid (show (gath ms (l.take (k + 1))).length = m + e by
        have h1 := hpt.out
        rw [he.out] at h1
        rw [htk.out, List.length_append, h1, hFm.out.2]
        omega)
      have hk8G := hk8.size
      have hsub : ∀ (j : Nat) u, (u8C (part ms p))[j]? = some u → ∀ w', Kept w w' → w'.cell? ⟨gm, a + j, none⟩ = some u := fun j u hu w' hk' => by
        unfold u8C at hu
        rw [List.getElem?_map, Option.map_eq_some_iff] at hu
        obtain ⟨x, hx, rfl⟩ := hu
        have h1 := hpa.out j x hx
        rw [ha.out, Int.toNat_natCast] at h1
        have h2 := (hM.kept hk').2 (a + j) x h1
        rwa [Nat.zero_add] at h2
      replace hsub := Lib.hid hsub
      have hsub2 := Lib.hid (show ∀ (j : Nat) u, (u8C (part ms p))[j]? = some u → ∀ w', Kept w w' → w'.cell? ⟨gm, off' + j, none⟩ = some u from fun j u hu w' hk' => by
        rcases hoff with rfl | h0
        · exact hsub.out j u hu w' hk'
        · have := (List.getElem?_eq_some_iff.1 hu).1
          rw [hpl.out] at this
          omega)
      clear hoff
      refine wp_region_held_drew (S := fun w' => (∀ b o, b < W8.heap.size → b ≠ w2.heap.size → w'.cell? ⟨b, o, none⟩ = W8.cell? ⟨b, o, none⟩) ∧ (W8.heap.size ≤ w'.heap.size ∧ Kept w w')) (by kernel_rfl) ⟨fun _ _ _ _ => rfl, Nat.le_refl _, hk8.drew⟩ (fun hS => ?_)
      refine wpAnyH_take (i := 0) (v := ?_) rfl (by kernel_rfl) (by kernel_rfl) (by kernel_rfl) (fun _ _ _ h => h) (Or.inl ⟨by kernel_rfl, ?_⟩) hS ?_
      rotate_left
      · intro w' hS'
        have hq := hS'.1
        have hq2 := hS'.2
        clear hS'
        first | (go_simp; done) | (go_simp; with_reducible rfl)
      try simp only [Act.put, List.getElem_toArray, List.getElem_cons_zero, List.getElem_cons_succ, List.setIfInBounds_toArray, List.set_cons_zero, List.set_cons_succ]
      refine wpAnyH_take (i := 1) (v := ?_) rfl (by kernel_rfl) (by kernel_rfl) (by kernel_rfl) (fun _ _ _ h => h) (Or.inl ⟨by kernel_rfl, ?_⟩) hS ?_
      rotate_left
      · intro w' hS'
        have hq := hS'.1
        have hq2 := hS'.2
        clear hS'
        first | (go_simp; done) | (go_simp; with_reducible rfl)
      try simp only [Act.put, List.getElem_toArray, List.getElem_cons_zero, List.getElem_cons_succ, List.setIfInBounds_toArray, List.set_cons_zero, List.set_cons_succ]
      refine wpAnyH_take (i := 2) (v := ?_) rfl (by kernel_rfl) (by kernel_rfl) (by kernel_rfl) (fun _ _ _ h => h) (Or.inl ⟨by kernel_rfl, ?_⟩) hS ?_
      rotate_left
      · intro w' hS'
        have hq := hS'.1
        have hq2 := hS'.2
        clear hS'
        first | (go_simp; done) | (go_simp; with_reducible rfl)
      try simp only [Act.put, List.getElem_toArray, List.getElem_cons_zero, List.getElem_cons_succ, List.setIfInBounds_toArray, List.set_cons_zero, List.set_cons_succ]
      refine wpAnyH_take (i := 3) (v := ?_) rfl (by kernel_rfl) (by kernel_rfl) (by kernel_rfl) (fun _ _ _ h => h) (Or.inl ⟨by kernel_rfl, ?_⟩) hS ?_
      rotate_left
      · intro w' hS'
        have hq := hS'.1
        have hq2 := hS'.2
        clear hS'
        first | (go_simp; done) | (go_simp; with_reducible rfl)
      try simp only [Act.put, List.getElem_toArray, List.getElem_cons_zero, List.getElem_cons_succ, List.setIfInBounds_toArray, List.set_cons_zero, List.set_cons_succ]
      refine wpAnyH_take (i := 4) (v := ?_) rfl (by kernel_rfl) (by kernel_rfl) (by kernel_rfl) (fun _ _ _ h => h) (Or.inl ⟨by kernel_rfl, ?_⟩) hS ?_
      rotate_left
      · intro w' hS'
        have hq := hS'.1
        have hq2 := hS'.2
        clear hS'
        first | (go_simp; done) | (go_simp; with_reducible rfl)
      try simp only [Act.put, List.getElem_toArray, List.getElem_cons_zero, List.getElem_cons_succ, List.setIfInBounds_toArray, List.set_cons_zero, List.set_cons_succ]
      refine wpAnyH_ready (rs := [5]) (by kernel_rfl) (by simp) ?_
      refine AllReadyH.cons rfl (fun K hK => ?_) AllReadyH.nil
      go_simp
      go_at_call 26
      refine (end_any a e _ (by omega) (by omega) (by omega)).mono ?_
      rintro e9 w9 ⟨rfl, hk9⟩
      try dsimp only
      have k9 : (∀ b o, b < W8.heap.size → b ≠ w2.heap.size → w9.cell? ⟨b, o, none⟩ = W8.cell? ⟨b, o, none⟩) ∧ (W8.heap.size ≤ w9.heap.size ∧ Kept w w9) :=
        ⟨fun b o hb hne => (hk9.cell (p := ⟨b, o, none⟩) hb).trans (hS.1 b o hb hne), Nat.le_trans hS.2.1 hk9.size, hS.2.2.trans' hk9⟩
      refine hK.out _ _ ?_ (fun hS => ?_)
      · exact k9
      clear hK K
      try simp only [Act.put, List.getElem_toArray, List.getElem_cons_zero, List.getElem_cons_succ, List.setIfInBounds_toArray, List.set_cons_zero, List.set_cons_succ]
      have hF9 : Fill w9 w2.heap.size 5 T (.int .u8 0) (u8C (gath ms (l.take k))) := by
        exact ⟨heap_kept hk9 hHF8.out.1, hHF8.out.2⟩
      refine wpAnyH_take (i := 6) (v := ?_) rfl (by kernel_rfl) (by kernel_rfl) (by kernel_rfl) (fun _ _ _ h => h) (Or.inl ⟨by kernel_rfl, ?_⟩) hS ?_
      rotate_left
      · intro w' hS'
        have hq := hS'.1
        have hq2 := hS'.2
        clear hS'
        first | (go_simp; done) | (go_simp; with_reducible rfl)
      try simp only [Act.put, List.getElem_toArray, List.getElem_cons_zero, List.getElem_cons_succ, List.setIfInBounds_toArray, List.set_cons_zero, List.set_cons_succ]
      refine wpAnyH_ready (rs := [7]) (by kernel_rfl) (by simp) ?_
      refine AllReadyH.cons rfl (fun K hK => ?_) AllReadyH.nil
      rw [if_pos (by kernel_rfl)]
      refine wp_append_fillS (.tmp 26) (.tmp 32) 29 rfl 5 i5 Try.underlying29 hi5 hz51 w2.heap.size m T (.int .u8 0) _ rfl hF9 hml.out gm off' e (d - a) (u8C (part ms p)) rfl (fun j u hu => hsub2.out j u hu _ k9.2.2) hpl.out hu8.out (by rw [← hml.out]; exact hroom) ?_
      intro w10 hF10 hsz10 hoth10 hbel10
      have k10 : (∀ b o, b < W8.heap.size → b ≠ w2.heap.size → w10.cell? ⟨b, o, none⟩ = W8.cell? ⟨b, o, none⟩) ∧ (W8.heap.size ≤ w10.heap.size ∧ Kept w w10) :=
        ⟨fun b o hb hne => (World.cell?_of_block (a := ⟨b, o, none⟩) (hoth10 b hne)).trans (k9.1 b o hb hne), by rw [hsz10]; exact k9.2.1, hbel10 _ _ (by have := hk02.size; omega) k9.2.2⟩
      refine hK.out _ _ ?_ (fun hS => ?_)
      · exact k10
      clear hK K
      try simp only [Act.put, List.getElem_toArray, List.getElem_cons_zero, List.getElem_cons_succ, List.setIfInBounds_toArray, List.set_cons_zero, List.set_cons_succ]
      refine wpAnyH_take (i := 8) (v := ?_) rfl (by kernel_rfl) (by kernel_rfl) (by kernel_rfl) (fun _ _ _ h => h) (Or.inl ⟨by kernel_rfl, ?_⟩) hS ?_
      rotate_left
      · intro w' hS'
        have hq := hS'.1
        have hq2 := hS'.2
        clear hS'
        first | (go_simp; done) | (go_simp; with_reducible rfl)
      try simp only [Act.put, List.getElem_toArray, List.getElem_cons_zero, List.getElem_cons_succ, List.setIfInBounds_toArray, List.set_cons_zero, List.set_cons_succ]
      refine wpAnyH_done (by kernel_rfl) ?_ _
      rw [← hnx.out] at hF10
      have hend := Lib.hid hF10
      have hGs := Lib.hid (show w2.heap.size < w10.heap.size by have := k10.2.1; omega)
      have hkE := k10.2.2
      have hme : m + e ≤ 100000 := by omega
      clear hF9 hF10 hoth10 hbel10 k9 k10 hk9
      go_wp2_with fail
      go_roundg (gk - 1)
      case measure => omega
      case rel => exact ⟨k + 1, m + e, by omega, by go_num, rfl, Lib.hid ⟨hend.out, hnl.out.symm⟩, hGs.out, hkE⟩
    · have hkn : k = n := by omega
      have hlt' : (n : Int) ≤ (k : Int) := by omega
      have hTm : m = T := by
        have h2 := gath_len (ms := ms) hok
        have h3 := hFm.out.2
        rw [hkn, List.take_of_length_le (by have := hln.out; omega)] at h3
        have := HT.out
        omega
      have hF : Fill wr w2.heap.size 5 T (.int .u8 0) (u8C (gath ms l)) := by
        have := hFm.out.1
        rwa [hkn, List.take_of_length_le (by have := hln.out; omega)] at this
      have hTg : T = (gath ms l).length := by
        have h2 := gath_len (ms := ms) hok
        have := HT.out
        omega
      subst hTm
      replace hF := Lib.hid hF
      replace hTg := Lib.hid hTg
      clear hkn
      go_wp2_with fail
      go_ret2
      refine ⟨w2.heap.size, by rw [← hTg.out]; rfl, hk02.size, ⟨hGw, fun j x hx => ?_⟩, hkw⟩
      rw [cell_of_row _ _ _ _ _ _ hF.out.1]
      have hj := (List.getElem?_eq_some_iff.1 hx).1
      rw [List.getElem?_toArray, Nat.zero_add, List.getElem?_append_left (by simpa [u8C] using hj)]
      simp [u8C, hx]
end Go.Proofs.Ytdkinfglpnajmaa
