/- The law of the chapter on reports, part 5: Rg Rh Rl Qe Qf Qg Pi. -/
import Derived.Test.YtegdigfcgeoboaaK4
import Derived.Deep.RegionLaw
import Derived.Deep.DeepMust
set_option maxHeartbeats 16000000
set_option linter.unusedVariables false
set_option linter.unusedSimpArgs false
set_option linter.unusedSectionVars false
namespace Go.Proofs.Ytegdigfcgeoboaa
open Go.RowKit Go.Maps
attribute [local go_sem ↓] Go.wp_at_zero Go.wp_at_succ
theorem info83 : (Try.prog.info? 83).map (fun i => (i.zero, i.size, i.bytes)) = some (some (.agg #[.int .u32 0, .int .i64 0, .int .i64 0, .int .u32 0, .int .u32 0, .int .u32 0]), 6, 40) := by kernel_rfl
theorem Fr.grow {α : Type} {t : Ty α} {e : TypeId} {base R m n : Nat} {w w' : World} {v : Value} {xs : List α} (h : Below base w w') (hg : w.grownBy w' v.ownBlock) (ho : Own t e base w v n xs) (he : e ≠ 29) : Fr base R m w w' := by
 refine ⟨h.os, h.tape, h.output, h.size, fun k h1 _ _ => h.block k h1, fun k cs _ _ h3 => (hg.block k (heap_lt h3) (fun e2 => ?_)).trans h3⟩
 obtain ⟨_, _, ⟨_, h2⟩, _⟩ := ho
 rcases h2 with ⟨rfl, _⟩ | ⟨g, cap, cur, rfl, _, hg2, _⟩
 ·cases e2
 ·have e3 : k = g := by simpa [Value.ownBlock] using e2
  subst e3
  rw [hg2] at h3
  injection h3 with h3
  injection h3 with _ h3 _
  exact he h3
set_option maxRecDepth 100000 in
theorem push_any {w : World} {base R m : Nat} {vs vu vf vc : Value} {s : RS} (h : Rd w base R m vs vu vf vc s) (hb : base ≤ w.heap.size) (hs : s.Fine) (x : It) (h1 : x.ty = 1) (h2 : x.tg = 10) :
  Calls Try.prog 51 #[.pointer (some ⟨R, 0, none⟩), itV x] w (Did base R m w (effS s x)) := by
 have hE : effS s x = if 8 ≤ s.stack.length then (3, s) else (0, { s with stack := s.stack ++ [s.g] }) := by simp [effS, h1, h2]
 rw [hE]
 clear hE
 have hdp := hs.depth
 have c0 : w.cell? ⟨R, 0, none⟩ = some (.int .u32 s.g.page) := cell_heap h.box (o := 0) rfl
 have c1 : w.cell? ⟨R, 1, none⟩ = some (.int .i64 s.g.lo) := cell_heap h.box (o := 1) rfl
 have c2 : w.cell? ⟨R, 2, none⟩ = some (.int .i64 s.g.hi) := cell_heap h.box (o := 2) rfl
 have c3 : w.cell? ⟨R, 3, none⟩ = some (.int .u32 s.g.size) := cell_heap h.box (o := 3) rfl
 have c4 : w.cell? ⟨R, 4, none⟩ = some (.int .u32 s.g.count) := cell_heap h.box (o := 4) rfl
 have c5 : w.cell? ⟨R, 5, none⟩ = some (.int .u32 s.g.report) := cell_heap h.box (o := 5) rfl
 have c6 : w.cell? ⟨R, 6, none⟩ = some vs := cell_heap h.box (o := 6) rfl
 have hRl := heap_lt h.box
 have hRb := h.low.1
 obtain ⟨A, cc, rfl, hA1, hA2⟩ := h.st.isSlice
 obtain ⟨i1, hi1, hz0, hz1, hz2⟩ := info_parts info83
 unfold itV
 by_cases c : 8 ≤ s.stack.length
 ·rw [if_pos c]
  have c' : (8 : Int) ≤ (s.stack.length : Int) := by omega
  go_enter Try.func51, Try.ntmps51
  go_wp2_with fail
  go_ret
  exact ⟨rfl, Fr.kept (by go_grown) hb, fun e => by cases e⟩
 ·rw [if_neg c]
  have c' : (s.stack.length : Int) < 8 := by omega
  go_enter Try.func51, Try.ntmps51
  go_wp2_with fail
  go_region_law (first
   | (refine step_append_el (T := glT) rfl (.tmp 15) (.tmp 20) 84 rfl base 83 i1 _ 40 Try.underlying84 hi1 hz0 hz1 hz2 rfl (by decide) _ s.stack.length s.stack (by rfl) (((h.st.alloc _).drew).alloc _) (w.heap.size + 1) _ _ s.g (by rfl) (heap_at _ (by simp)) ⟨rfl, trivial⟩ (by simp [Value.oneCell']) (by unfold maxLen; omega) (by omega) (by simp; omega) ?_; intro g cap w4 hown4 hg4 hb4 hat4 hlt4; have hbx4 := (hb4.block R hRb).trans (heap_kept (show Kept w _ by go_grown) h.box); have c6' := cell_heap hbx4 (o := 6) rfl; have f6' := frozen_heap hbx4 (o := 6); have hl4 := heap_lt hbx4))
  all_goals
   go_wp2_with fail
   go_ret
   have hkW := (show Kept w ((w.alloc (.cells #[.int .u8 1, .int .u8 10, .int .i64 x.size, .int .u32 x.data] 29)).alloc (.cells s.g.cells.toArray 83)).drew by go_grown)
   exact ⟨rfl, ((Fr.kept hkW hb).trans (Fr.grow hb4 hg4 (((h.st.alloc _).drew).alloc _) (by decide))).trans (Fr.set 6 _), fun _ => ⟨_, _, _, _, (h.kept hkW).stackAdd hg4 hown4 hat4⟩⟩
set_option maxRecDepth 100000 in
theorem pop_any {w : World} {base R m : Nat} {vs vu vf vc : Value} {s : RS} (h : Rd w base R m vs vu vf vc s) (hb : base ≤ w.heap.size) (hs : s.Fine) (x : It) (h1 : x.ty = 1) (h2 : x.tg = 11) :
  Calls Try.prog 52 #[.pointer (some ⟨R, 0, none⟩), itV x] w (Did base R m w (effS s x)) := by
 have hE : effS s x = (match s.stack.getLast? with | none => (4, s) | some g => (0, { s with g := g, stack := s.stack.dropLast })) := by
  unfold effS
  rw [if_neg (by omega), if_pos h1, if_neg (by omega), if_neg (by omega), if_neg (by omega), if_neg (by omega), if_neg (by omega), if_neg (by omega), if_neg (by omega), if_neg (by omega), if_pos h2]
  cases s.stack.getLast? <;> rfl
 have hdp := hs.depth
 have hbx := h.box
 have c0 := cell_heap h.box (o := 0) rfl
 have c1 := cell_heap h.box (o := 1) rfl
 have c2 := cell_heap h.box (o := 2) rfl
 have c3 := cell_heap h.box (o := 3) rfl
 have c4 := cell_heap h.box (o := 4) rfl
 have c5 := cell_heap h.box (o := 5) rfl
 have c6 : w.cell? ⟨R, 6, none⟩ = some vs := cell_heap h.box (o := 6) rfl
 have f0 := frozen_heap h.box (o := 0)
 have f1 := frozen_heap h.box (o := 1)
 have f2 := frozen_heap h.box (o := 2)
 have f3 := frozen_heap h.box (o := 3)
 have f4 := frozen_heap h.box (o := 4)
 have f5 := frozen_heap h.box (o := 5)
 have f6 := frozen_heap h.box (o := 6)
 have hRl := heap_lt h.box
 have hRb := h.low.1
 obtain ⟨A, cc, rfl, hA1, hA2⟩ := h.st.isSlice
 unfold itV
 by_cases c : s.stack.length = 0
 ·have hG : s.stack.getLast? = none := by rw [List.eq_nil_of_length_eq_zero c]; rfl
  rw [hE, hG]
  go_enter Try.func52, Try.ntmps52
  go_wp2_with fail
  go_ret
  exact ⟨rfl, Fr.kept (by go_grown) hb, fun e => by cases e⟩
 ·obtain ⟨n, hn⟩ : ∃ n, s.stack.length = n + 1 := ⟨s.stack.length - 1, by omega⟩
  obtain ⟨y, b, off, cs, hy, rfl, hbb, ⟨rfl, _⟩, hcs⟩ := h.st.sl.at (show n < s.stack.length by omega)
  have hG : s.stack.getLast? = some y := by rw [List.getLast?_eq_getElem?, hn]; exact hy
  rw [hE, hG]
  clear hE hG
  have y0 : w.cell? ⟨b, off + n * 6, none⟩ = some (.int .u32 y.page) := hcs 0 _ rfl
  have y1 : w.cell? ⟨b, off + n * 6 + 1, none⟩ = some (.int .i64 y.lo) := hcs 1 _ rfl
  have y2 : w.cell? ⟨b, off + n * 6 + 2, none⟩ = some (.int .i64 y.hi) := hcs 2 _ rfl
  have y3 : w.cell? ⟨b, off + n * 6 + 3, none⟩ = some (.int .u32 y.size) := hcs 3 _ rfl
  have y4 : w.cell? ⟨b, off + n * 6 + 4, none⟩ = some (.int .u32 y.count) := hcs 4 _ rfl
  have y5 : w.cell? ⟨b, off + n * 6 + 5, none⟩ = some (.int .u32 y.report) := hcs 5 _ rfl
  have hbl : b < w.heap.size := hbb
  clear hcs
  have hoff : off = 0 := by
   rcases h.st.form with ⟨e, _⟩ | ⟨g, cap, e, _⟩
   ·injection e with e; cases e
   ·injection e with e _ _; injection e with e; injection e
  subst hoff
  simp only [Nat.zero_add] at y0 y1 y2 y3 y4 y5
  have hnl : (s.stack.length : Int) = (n : Int) + 1 := by omega
  have hn8 : (n : Int) < 8 := by omega
  go_enter Try.func52, Try.ntmps52
  go_wp2_with fail
  go_region
  go_wp2_with fail
  go_region
  go_wp2_with fail
  go_ret
  have k0 := h.set 0 (.int .u32 y.page) (s' := { s with g := { s.g with page := y.page } }) rfl rfl rfl rfl rfl
  have k1 := k0.set 1 (.int .i64 y.lo) (s' := { s with g := { s.g with page := y.page, lo := y.lo } }) rfl rfl rfl rfl rfl
  have k2 := k1.set 2 (.int .i64 y.hi) (s' := { s with g := { s.g with page := y.page, lo := y.lo, hi := y.hi } }) rfl rfl rfl rfl rfl
  have k3 := k2.set 3 (.int .u32 y.size) (s' := { s with g := { s.g with page := y.page, lo := y.lo, hi := y.hi, size := y.size } }) rfl rfl rfl rfl rfl
  have k4 := k3.set 4 (.int .u32 y.count) (s' := { s with g := { s.g with page := y.page, lo := y.lo, hi := y.hi, size := y.size, count := y.count } }) rfl rfl rfl rfl rfl
  have k5 := k4.set 5 (.int .u32 y.report) (s' := { s with g := y }) rfl rfl rfl rfl rfl
  have hdl : s.stack.dropLast.length = n := by rw [List.length_dropLast]; omega
  have k6 := k5.stackTo (l := s.stack.dropLast) (v' := .slice (some ⟨b, 0, none⟩) n cc) grown_self (by rw [hdl, List.dropLast_eq_take, hn]; exact Own.take k5.st (by omega)) (.inr (.inl rfl))
  refine ⟨rfl, (((((((Fr.set 0 _).trans (Fr.set 1 _)).trans (Fr.set 2 _)).trans (Fr.set 3 _)).trans (Fr.set 4 _)).trans (Fr.set 5 _)).trans (Fr.set 6 _)).trans (Fr.kept (by go_grown) (by simp only [World.size_setCell]; exact hb)), fun _ => ⟨_, _, _, _, k6.kept (by go_grown)⟩⟩
theorem info27 : (Try.prog.info? 27).map (fun i => (i.zero, i.size, i.bytes)) = some (some (.int .u32 0), 1, 4) := by kernel_rfl
def rowU (s : RS) (lo : Int) (k : Nat) : RS := { s with usages := s.usages ++ (List.range k).map (fun (i : Nat) => lo + (i : Int)) }
theorem rowU_succ (s : RS) (lo : Int) (k : Nat) : rowU s lo (k + 1) = { rowU s lo k with usages := (rowU s lo k).usages ++ [lo + (k : Int)] } := by
 unfold rowU
 rw [List.range_succ, List.map_append, ← List.append_assoc]; rfl
set_option maxRecDepth 100000 in
theorem add_any {w : World} {base R m : Nat} {vs vu vf vc : Value} {s : RS} (h : Rd w base R m vs vu vf vc s) (hb : base ≤ w.heap.size) (hu : s.usages.length ≤ 512) (lo hi : Int) (hlo : u32k lo) (hhi : u32k hi) (hle : lo ≤ hi) :
  Calls Try.prog 62 #[.pointer (some ⟨R, 0, none⟩), .int .u32 lo, .int .u32 hi] w (Did base R m w (addS s lo hi)) := by
 unfold u32k at hlo hhi
 obtain ⟨i1, hi1, hz0, hz1, hz2⟩ := info_parts info27
 have hRb := h.low.1
 have hwlo : IntKind.u64.wrap lo = lo := by rw [IntKind.wrap_u64]; omega
 have hwhi : IntKind.u64.wrap hi = hi := by rw [IntKind.wrap_u64]; omega
 go_enter Try.func62, Try.ntmps62
 go_wp2_with fail
 go_loopg [7] (hi - lo + 1).toNat (fun g s7 wr => ∃ k : Nat, k + g = (hi - lo + 1).toNat ∧ s7 = .int .u64 (lo + k) ∧ s.usages.length + k ≤ 512 ∧ Fr base R m w wr ∧ ∃ vs vu vf vc, Rd wr base R m vs vu vf vc (rowU s lo k))
 case atStart => exact ⟨0, by omega, by rw [Int.natCast_zero, Int.add_zero], by omega, Fr.refl, vs, vu, vf, vc, by unfold rowU; simpa using h⟩
 case round =>
  obtain ⟨k, hk, rfl, hk5, hfr, vs', vu', vf', vc', hr⟩ := hrel
  obtain ⟨A, cc, rfl, hA1, hA2⟩ := hr.us.isSlice
  have c7 : wr.cell? ⟨R, 7, none⟩ = some (.slice A (rowU s lo k).usages.length cc) := cell_heap hr.box (o := 7) rfl
  have hRl := heap_lt hr.box
  have hL : (rowU s lo k).usages.length = s.usages.length + k := by unfold rowU; simp
  have HL := hide hL
  clear hL
  have hbr : base ≤ wr.heap.size := Nat.le_trans hb hfr.size
  by_cases hlt : lo + k ≤ hi
  ·have hA : (addS s lo hi) = if 512 < (s.usages.length : Int) + (hi - lo + 1) then (3, s) else (0, rowU s lo (hi - lo + 1).toNat) := rfl
   by_cases hfull : 512 ≤ s.usages.length + k
   ·have hf1 : (512 : Int) ≤ ((rowU s lo k).usages.length : Int) := by have := HL.out; omega
    rw [hA, if_pos (by omega)]
    go_wp2_with fail
    go_ret
    exact ⟨rfl, hfr, fun e => by cases e⟩
   ·have hf1 : ((rowU s lo k).usages.length : Int) < 512 := by have := HL.out; omega
    have hw32 : IntKind.u32.wrap (lo + k) = lo + k := by rw [IntKind.wrap_u32]; omega
    have hw64 : IntKind.u64.wrap (lo + k + 1) = lo + k + 1 := by rw [IntKind.wrap_u64]; omega
    go_wp2_with (at_builtin; go_must (refine wpList_append_el (T := u32T) rfl (.tmp 26) (.tmp 29) 57 rfl base 27 i1 _ 4 Try.underlying57 hi1 hz0 hz1 hz2 rfl (by decide) _ (rowU s lo k).usages.length (rowU s lo k).usages (by rfl) (hr.us.alloc _) wr.heap.size _ _ (lo + k) (by rfl) (heap_at _ rfl) ⟨rfl, by unfold u32k; omega⟩ (by simp [Value.oneCell']) (by unfold maxLen; omega) (by omega) (by simp; omega) ?_); intro g cap w4 hown4 hg4 hb4 hat4 hlt4; have hbx4 := (hb4.block R hRb).trans (heap_kept (show Kept wr _ by go_grown) hr.box); have c6' := cell_heap hbx4 (o := 7) rfl; have f6' := frozen_heap hbx4 (o := 7); have hl4 := heap_lt hbx4)
    have hkW := (show Kept wr (wr.alloc (.cells #[.int .u32 (lo + k)] 27)) by go_grown)
    have hr4 := (hr.kept hkW).usagesAdd hg4 hown4 hat4
    rw [← rowU_succ] at hr4
    go_roundg (gk - 1)
    case measure => omega
    case rel =>
     exact ⟨k + 1, by omega, by go_num, by omega, ((hfr.trans (Fr.kept hkW hbr)).trans (Fr.grow hb4 hg4 (hr.us.alloc _) (by decide))).trans (Fr.set 7 _), _, _, _, _, hr4⟩
  ·have hk' : k = (hi - lo + 1).toNat := by omega
   have hlt' : hi < lo + k := by omega
   have hA : (addS s lo hi) = if 512 < (s.usages.length : Int) + (hi - lo + 1) then (3, s) else (0, rowU s lo (hi - lo + 1).toNat) := rfl
   rw [hA, if_neg (by omega)]
   go_wp2_with fail
   go_ret
   rw [hk'] at hr
   exact ⟨rfl, hfr, fun _ => ⟨_, _, _, _, hr⟩⟩
end Go.Proofs.Ytegdigfcgeoboaa
namespace Go.Proofs.Ytegdigfcgeoboaa
open Go.RowKit
attribute [local go_sem ↓] Go.wp_at_zero Go.wp_at_succ
theorem eqlRow57 (a : Addr) (n c : Nat) (w : World) : (binOp .eql 57 (.slice (some a) n c) (.slice none 0 0)).run Try.prog w = .ok (.bool false) w := by kernel_rfl
theorem eqlNone57 (n c : Nat) (w : World) : (binOp .eql 57 (.slice none n c) (.slice none 0 0)).run Try.prog w = .ok (.bool true) w := by kernel_rfl
theorem clip75 (A : Option Addr) (n c : Nat) (hn : n ≤ c) (hc : c ≤ maxLen) (w : World) : Calls Try.prog 75 #[.slice A n c] w fun e w' => e = .returned (.slice A n n) ∧ w = w' := by
 unfold maxLen at hc
 go_enter Try.func75, Try.ntmps75
 go_wp2
 go_ret
 exact ⟨rfl, rfl⟩
theorem own_u32_new {w : World} {base n c : Nat} {A : Option Addr} {l : List Int} (h : Own u32T 27 base w (.slice A n c) n l) : Sl u32T w (fun g => base ≤ g ∧ g < w.heap.size) A n l :=
 ⟨h.1, fun i x hx => by
  obtain ⟨b, off, cs, e, hb, hr, hc⟩ := h.sl.2 i x hx
  subst e
  exact ⟨b, off, cs, rfl, ⟨(h.lt rfl).1, hb⟩, hr, hc⟩⟩
set_option maxRecDepth 100000 in
theorem clone76 (A : Option Addr) (n c : Nat) (l : List Int) (w : World) (hn : n ≤ 512) (hl : Sl u32T w (low w.heap.size) A n l) :
  Calls Try.prog 76 #[.slice A n c] w fun e w' => ∃ A' c', e = .returned (.slice A' n c') ∧ n ≤ c' ∧ c' ≤ maxLen ∧ Sl u32T w' (fun g => w.heap.size ≤ g ∧ g < w'.heap.size) A' n l ∧ Kept w w' := by
 obtain ⟨i3, hi3, hz30, hz31, hz32⟩ := info_parts info27
 cases A with
 | none =>
  have hn0 : n = 0 := by
   have h1 := hl.1
   cases l with
   | nil => simpa using h1.symm
   | cons x l =>
    obtain ⟨b, off, cs, e, _⟩ := hl.2 0 x rfl
    cases e
  subst hn0
  have hl0 : l = [] := List.eq_nil_of_length_eq_zero hl.1
  subst hl0
  have hE := eqlNone57 0 c
  go_enter Try.func76, Try.ntmps76
  go_wp2
  go_ret
  exact ⟨none, 0, rfl, Nat.le_refl _, by decide, Sl.nil _ _ _ _, Below.refl _ _⟩
 | some a =>
  have hE := eqlRow57 a n c
  go_enter Try.func76, Try.ntmps76
  go_wp2_with (at_builtin; refine wpList_append_sl (T := u32T) rfl (.tmp 5) (.tmp 6) 57 rfl w.heap.size 27 i3 _ 4 Try.underlying57 hi3 hz30 hz31 hz32 rfl (by decide) _ 0 [] (by rfl) (Own.lit0 u32T 27 _ (Nat.le_refl _) (heap_at _ rfl)) _ n c l (by rfl) (hl.keep (fun b hb => ⟨by have : b < w.heap.size := hb; simp; omega, by have : b < w.heap.size := hb; simp [Value.ownBlock]; omega⟩) (fun b o hb => by have : b < w.heap.size := hb; exact ((Below.refl _ _).alloc (Nat.le_refl _) _ : Kept w _).cell (p := ⟨b, o, none⟩) this)) (by rintro r cs ⟨rfl, _⟩ u hu; simp at hu; subst hu; rfl) (by unfold maxLen; omega) (by omega) (by simp) ?_; intro v7 w7 hown7 hg7 hb7 hat7)
  obtain ⟨A', c', rfl, hj1, hj2⟩ := hown7.isSlice
  rw [Nat.zero_add, List.nil_append] at hown7
  rw [Nat.zero_add] at hj1
  go_wp2
  go_ret
  exact ⟨A', c', by simp, hj1, hj2, own_u32_new hown7, Below.trans ((Below.refl _ _).alloc (Nat.le_refl _) _) hb7⟩
def IdxIs (l : List Int) (u i : Int) : Prop := (∃ k : Nat, i = k ∧ l[k]? = some u ∧ ∀ j, j < k → l[j]? ≠ some u) ∨ (i = -1 ∧ u ∉ l)
set_option maxRecDepth 100000 in
theorem index36 (A : Option Addr) (n c : Nat) (l : List Int) (u : Int) (w : World) (hn : n ≤ maxLen) (hl : Sl u32T w (low w.heap.size) A n l) :
  Calls Try.prog 36 #[.slice A n c, .int .u32 u] w fun e w' => (∃ i, e = .returned (.int .i64 i) ∧ IdxIs l u i) ∧ w = w' := by
 unfold maxLen at hn
 go_enter Try.func36, Try.ntmps36
 go_wp2_with fail
 go_loopg [8] n (fun g s8 wr => ∃ i : Nat, i + g = n ∧ s8 = .int .i64 i ∧ wr = w ∧ ∀ j, j < i → l[j]? ≠ some u)
 case atStart => exact ⟨0, by omega, rfl, rfl, fun j hj => by omega⟩
 case round =>
  obtain ⟨i, hi, rfl, rfl, hno⟩ := hrel
  have Hno := hide hno
  have Hi := hide hi
  clear hno hi
  by_cases hlt : i < n
  ·obtain ⟨x, b, off, cs, hx, rfl, hbb, ⟨rfl, _⟩, hcs⟩ := hl.at hlt
   have x0 : wr.cell? ⟨b, off + i, none⟩ = some (.int .u32 x) := by have := hcs 0 _ rfl; simpa [u32T, Ty.flat] using this
   have hbl : b < wr.heap.size := hbb
   have hi0 : (0 : Int) ≤ (i : Int) := by omega
   have hlt' : (i : Int) < (n : Int) := by omega
   have Hx := hide hx
   clear hx hcs
   by_cases he : u = x
   ·subst he
    go_wp2_with fail
    go_ret
    exact ⟨⟨i, rfl, .inl ⟨i, rfl, Hx.out, Hno.out⟩⟩, rfl⟩
   ·have he1 : (u == x) = false := by simpa using he
    go_wp2_with fail
    go_roundg (gk - 1)
    case measure => have := Hi.out; omega
    case rel =>
     refine ⟨i + 1, by have := Hi.out; omega, by go_num, rfl, fun j hj => ?_⟩
     by_cases e : j = i
     ·subst e
      rw [Hx.out]
      intro h
      exact he (by injection h with h; exact h.symm)
     ·exact Hno.out j (by omega)
  ·have hge : (n : Int) ≤ (i : Int) := by omega
   go_wp2_with fail
   go_ret
   refine ⟨⟨-1, rfl, .inr ⟨rfl, fun hm => ?_⟩⟩, rfl⟩
   obtain ⟨j, hj, e⟩ := List.getElem_of_mem hm
   have hln := hl.1
   have hii := Hi.out
   exact Hno.out j (by omega) (by rw [List.getElem?_eq_getElem hj, e])
def lenS (nb : Bool) (l : List Fd) (k r : Int) : Int := (bitsS l k r + 7) / 8 + if l.any (fun f => f.kind == k && f.report == r) && nb then 1 else 0
def SizesOk (l : List Fd) : Prop := l.length ≤ 256 ∧ ∀ f ∈ l, 1 ≤ f.size ∧ f.size ≤ 32 ∧ 1 ≤ f.count ∧ f.count ≤ 256
theorem bits_le : ∀ (l : List Fd) (k r : Int), (∀ f ∈ l, 1 ≤ f.size ∧ f.size ≤ 32 ∧ 1 ≤ f.count ∧ f.count ≤ 256) → 0 ≤ bitsS l k r ∧ bitsS l k r ≤ 8192 * (l.length : Int)
 | [], _, _, _ => by simp [bitsS]
 | f :: l, k, r, h => by
  have h1 := bits_le l k r (fun f hf => h f (List.mem_cons_of_mem _ hf))
  obtain ⟨a, b, c, d⟩ := h f List.mem_cons_self
  have h2 : f.size * f.count ≤ 32 * f.count := Int.mul_le_mul_of_nonneg_right (by omega) (by omega)
  have h3 : 1 * f.count ≤ f.size * f.count := Int.mul_le_mul_of_nonneg_right (by omega) (by omega)
  have e : bitsS (f :: l) k r = (if f.kind == k && f.report == r then f.size * f.count else 0) + bitsS l k r := by
   unfold bitsS
   rw [List.filter_cons]
   cases hc : (f.kind == k && f.report == r) <;> simp
  rw [e, List.length_cons]
  split <;> omega
set_option maxRecDepth 100000 in
theorem length21 (A C : Option Addr) (n c nc cc : Nat) (nb : Bool) (l : List Fd) (k r : Int) (w : World) (hs : SizesOk l) (hl : Sl fdT w (low w.heap.size) A n l) :
  Calls Try.prog 21 #[.agg #[.slice A n c, .slice C nc cc, .bool nb], .int .u8 k, .int .u8 r] w fun e w' => e = .returned (.int .i64 (lenS nb l k r)) ∧ Kept w w' := by
 have hn := hl.1
 have hn2 := hs.1
 have hbt := fun i => bits_le (l.take i) k r (fun f hf => hs.2 f (List.mem_of_mem_take hf))
 have Hs := hide hs
 have Hn := hide hn
 have hn3 : n ≤ 256 := by omega
 clear hs hn hn2
 go_enter Try.func21, Try.ntmps21
 go_wp2_with fail
 refine wp_at (fun W => W.heap[w.heap.size]? = some (.cells #[.slice A n c, .slice C nc cc, .bool nb] 40 (0, 0)) ∧ Kept w W) ⟨heap_at _ rfl, by go_grown⟩ (fun W hW => ?_)
 obtain ⟨hB, hkW⟩ := hW
 have HB := hide hB
 have HkW := hide hkW
 clear hB hkW
 go_loopg [7, 8, 15] n (fun g s7 s8 tQ wr => ∃ i : Nat, i + g = n ∧ tQ = .int .i64 i ∧ s7 = .int .i64 (bitsS (l.take i) k r) ∧ s8 = .bool ((l.take i).any (fun f => f.kind == k && f.report == r)) ∧ Kept W wr)
 case atStart => exact ⟨0, by omega, rfl, rfl, rfl, Below.refl _ _⟩
 case round =>
  obtain ⟨i, hi, rfl, rfl, rfl, hk⟩ := hrel
  have hbi := hbt i
  have hkz := hk.size
  have hli : (l.take i).length ≤ 256 := by rw [List.length_take]; have := Hn.out; omega
  have Hi := hide hi
  have hb40 := heap_kept hk HB.out
  have m2 : wr.cell? ⟨w.heap.size, 2, none⟩ = some (.bool nb) := cell_heap hb40 (o := 2) rfl
  have hml := heap_lt hb40
  clear hi hb40
  obtain ⟨B, hB⟩ : ∃ B, bitsS (l.take i) k r = B := ⟨_, rfl⟩
  obtain ⟨q, hq⟩ : ∃ q, (l.take i).any (fun f => f.kind == k && f.report == r) = q := ⟨_, rfl⟩
  rw [hB] at hbi ⊢
  rw [hq]
  have HB2 := hide hB
  have Hq := hide hq
  obtain ⟨hb1, hb2⟩ := hbi
  have hb3 : B ≤ 2097152 := by omega
  clear hB hq hb2 hli hbt
  by_cases hlt : i < n
  ·obtain ⟨f, b, off, cs, hf, rfl, hbb, ⟨A', rfl, hul, _⟩, hcs⟩ := (hl.kept (HkW.out.trans' hk)).at hlt
   have hcs' : ∀ (j : Nat) v, (f.cells A')[j]? = some v → wr.cell? ⟨b, off + i * 13 + j, none⟩ = some v := fun j v h => hcs j v h
   have x0 : wr.cell? ⟨b, off + i * 13, none⟩ = _ := hcs' 0 _ rfl
   have x1 := hcs' 1 _ rfl
   have x2 := hcs' 2 _ rfl
   have x3 := hcs' 3 _ rfl
   have x4 := hcs' 4 _ rfl
   have x5 := hcs' 5 _ rfl
   have x6 := hcs' 6 _ rfl
   have x7 := hcs' 7 _ rfl
   have x8 := hcs' 8 _ rfl
   have x9 := hcs' 9 _ rfl
   have x10 := hcs' 10 _ rfl
   have x11 := hcs' 11 _ rfl
   have x12 := hcs' 12 _ rfl
   have hbl : b < wr.heap.size := hbb
   have hi0 : (0 : Int) ≤ (i : Int) := by omega
   have hlt' : (i : Int) < (n : Int) := by omega
   obtain ⟨a1, a2, a3, a4⟩ := Hs.out.2 f (List.mem_of_getElem? hf)
   have hsn : l.take (i + 1) = l.take i ++ [f] := by
    obtain ⟨h1, h2⟩ := List.getElem?_eq_some_iff.1 hf
    rw [List.take_succ_eq_append_getElem h1, h2]
   have hbs := bitsS_snoc (l.take i) f k r
   rw [← hsn, HB2.out] at hbs
   have hqs : (l.take (i + 1)).any (fun f => f.kind == k && f.report == r) = (q || (f.kind == k && f.report == r)) := by
    rw [hsn, List.any_append, Hq.out]; simp
   have Hbs := hide hbs
   have Hqs := hide hqs
   have hp1 : f.size * f.count ≤ 32 * f.count := Int.mul_le_mul_of_nonneg_right (by omega) (by omega)
   have hp2 : 1 * f.count ≤ f.size * f.count := Int.mul_le_mul_of_nonneg_right (by omega) (by omega)
   have hw1 : IntKind.i64.wrap (f.size * f.count) = f.size * f.count := by rw [IntKind.wrap_i64]; omega
   have hw2 : IntKind.i64.wrap (B + f.size * f.count) = B + f.size * f.count := by rw [IntKind.wrap_i64]; omega
   have hm1 : min f.size 32 = f.size := by omega
   have hm2 : max f.size 0 = f.size := by omega
   have hm3 : min f.count 256 = f.count := by omega
   have hm4 : max f.count 0 = f.count := by omega
   clear hcs hcs' hf hsn hbs hqs
   by_cases c1 : f.kind = k
   ·by_cases c2 : f.report = r
    ·have e : (f.kind == k && f.report == r) = true := by simp [c1, c2]
     have d1 : (f.kind == k) = true := by simpa using c1
     have d2 : (f.report == r) = true := by simpa using c2
     have E := hide e
     clear e c1 c2
     go_wp2_with fail
     go_roundg (gk - 1)
     case measure => have := Hi.out; omega
     case rel =>
      refine ⟨i + 1, by have := Hi.out; omega, by go_num, ?_, ?_, by go_grown⟩
      ·rw [Hbs.out, E.out]; rfl
      ·rw [Hqs.out, E.out, Bool.or_true]
    ·have e : (f.kind == k && f.report == r) = false := by simp [c2]
     have d1 : (f.kind == k) = true := by simpa using c1
     have d2 : (f.report == r) = false := by simpa using c2
     have E := hide e
     clear e c1 c2
     go_wp2_with fail
     go_roundg (gk - 1)
     case measure => have := Hi.out; omega
     case rel =>
      refine ⟨i + 1, by have := Hi.out; omega, by go_num, ?_, ?_, by go_grown⟩
      ·rw [Hbs.out, E.out]; simp
      ·rw [Hqs.out, E.out, Bool.or_false]
   ·have e : (f.kind == k && f.report == r) = false := by simp [c1]
    have d1 : (f.kind == k) = false := by simpa using c1
    have E := hide e
    clear e c1
    go_wp2_with fail
    go_roundg (gk - 1)
    case measure => have := Hi.out; omega
    case rel =>
     refine ⟨i + 1, by have := Hi.out; omega, by go_num, ?_, ?_, by go_grown⟩
     ·rw [Hbs.out, E.out]; simp
     ·rw [Hqs.out, E.out, Bool.or_false]
  ·have hge : (n : Int) ≤ (i : Int) := by omega
   have hin : i = n := by have := Hi.out; omega
   have htk : l.take i = l := by rw [hin, ← Hn.out]; exact List.take_length
   have h1 := HB2.out
   have h2 := Hq.out
   rw [htk] at h1 h2
   have hR : lenS nb l k r = (B + 7) / 8 + if q && nb then 1 else 0 := by unfold lenS; rw [h1, h2]
   have HR := hide hR
   clear hR h1 h2 htk hin
   have hw1 : IntKind.i64.wrap (B + 7) = B + 7 := by rw [IntKind.wrap_i64]; omega
   cases q with
   | false =>
    go_wp2_with fail
    go_ret
    exact ⟨ret_int (by rw [HR.out]; simp), HkW.out.trans' hk⟩
   | true =>
    cases nb with
    | false =>
     go_wp2_with fail
     go_ret
     exact ⟨ret_int (by rw [HR.out]; simp), HkW.out.trans' hk⟩
    | true =>
     go_wp2_with fail
     go_ret
     exact ⟨ret_int (by rw [HR.out]; simp), HkW.out.trans' hk⟩
set_option maxRecDepth 100000 in
theorem same_eq (f : Fd) (A1 A2 : Option Addr) (w : World) (hn : f.usages.length ≤ maxLen) (h1 : Sl u32T w (low w.heap.size) A1 f.usages.length f.usages) (h2 : Sl u32T w (low w.heap.size) A2 f.usages.length f.usages) :
  Calls Try.prog 24 #[.agg (f.cells A1).toArray, .agg (f.cells A2).toArray] w fun e w' => e = .returned (.bool true) ∧ Kept w w' := by
 unfold maxLen at hn
 unfold Fd.cells
 obtain ⟨n, hn0⟩ : ∃ n, f.usages.length = n := ⟨_, rfl⟩
 rw [hn0] at hn h1 h2 ⊢
 have Hn := hide hn0
 clear hn0
 go_enter Try.func24, Try.ntmps24
 go_upto_region 3 with (fail)
 refine wp_at (fun W => W.heap[w.heap.size]? = some (.cells #[.int .u8 f.kind, .int .u8 f.report, .int .i64 f.parent, .slice A1 n n, .int .i64 f.lo, .int .i64 f.hi, .int .i64 f.size, .int .i64 f.count, .int .i64 f.pos, .bool f.const, .bool f.array, .bool f.signed, .bool f.rel] 59 (0, 0)) ∧
   W.heap[w.heap.size + 1]? = some (.cells #[.int .u8 f.kind, .int .u8 f.report, .int .i64 f.parent, .slice A2 n n, .int .i64 f.lo, .int .i64 f.hi, .int .i64 f.size, .int .i64 f.count, .int .i64 f.pos, .bool f.const, .bool f.array, .bool f.signed, .bool f.rel] 59 (0, 0)) ∧ Kept w W) ⟨heap_past (heap_at _ rfl), heap_at _ (by simp), by go_grown⟩ (fun W hW => ?_)
 obtain ⟨hB1, hB2, hkW⟩ := hW
 have HB1 := hide hB1
 have HB2 := hide hB2
 have HkW := hide hkW
 clear hB1 hB2 hkW
 go_wp2_with fail
 go_loopg [5] n (fun g s5 wr => ∃ i : Nat, i + g = n ∧ s5 = .int .i64 i ∧ Kept W wr)
 case atStart => exact ⟨0, by omega, rfl, Below.refl _ _⟩
 case round =>
  obtain ⟨i, hi, rfl, hk⟩ := hrel
  have Hi := hide hi
  have b1 := heap_kept hk HB1.out
  have b2 := heap_kept hk HB2.out
  have l1 := heap_lt b1
  have l2 := heap_lt b2
  have p0 : wr.cell? ⟨w.heap.size, 0, none⟩ = _ := cell_heap b1 (o := 0) rfl
  have p1 : wr.cell? ⟨w.heap.size, 1, none⟩ = _ := cell_heap b1 (o := 1) rfl
  have p2 : wr.cell? ⟨w.heap.size, 2, none⟩ = _ := cell_heap b1 (o := 2) rfl
  have p3 : wr.cell? ⟨w.heap.size, 3, none⟩ = some (.slice A1 n n) := cell_heap b1 (o := 3) rfl
  have p4 : wr.cell? ⟨w.heap.size, 4, none⟩ = _ := cell_heap b1 (o := 4) rfl
  have p5 : wr.cell? ⟨w.heap.size, 5, none⟩ = _ := cell_heap b1 (o := 5) rfl
  have p6 : wr.cell? ⟨w.heap.size, 6, none⟩ = _ := cell_heap b1 (o := 6) rfl
  have p7 : wr.cell? ⟨w.heap.size, 7, none⟩ = _ := cell_heap b1 (o := 7) rfl
  have p8 : wr.cell? ⟨w.heap.size, 8, none⟩ = _ := cell_heap b1 (o := 8) rfl
  have p9 : wr.cell? ⟨w.heap.size, 9, none⟩ = _ := cell_heap b1 (o := 9) rfl
  have p10 : wr.cell? ⟨w.heap.size, 10, none⟩ = _ := cell_heap b1 (o := 10) rfl
  have p11 : wr.cell? ⟨w.heap.size, 11, none⟩ = _ := cell_heap b1 (o := 11) rfl
  have p12 : wr.cell? ⟨w.heap.size, 12, none⟩ = _ := cell_heap b1 (o := 12) rfl
  have q0 : wr.cell? ⟨w.heap.size + 1, 0, none⟩ = _ := cell_heap b2 (o := 0) rfl
  have q1 : wr.cell? ⟨w.heap.size + 1, 1, none⟩ = _ := cell_heap b2 (o := 1) rfl
  have q2 : wr.cell? ⟨w.heap.size + 1, 2, none⟩ = _ := cell_heap b2 (o := 2) rfl
  have q3 : wr.cell? ⟨w.heap.size + 1, 3, none⟩ = some (.slice A2 n n) := cell_heap b2 (o := 3) rfl
  have q4 : wr.cell? ⟨w.heap.size + 1, 4, none⟩ = _ := cell_heap b2 (o := 4) rfl
  have q5 : wr.cell? ⟨w.heap.size + 1, 5, none⟩ = _ := cell_heap b2 (o := 5) rfl
  have q6 : wr.cell? ⟨w.heap.size + 1, 6, none⟩ = _ := cell_heap b2 (o := 6) rfl
  have q7 : wr.cell? ⟨w.heap.size + 1, 7, none⟩ = _ := cell_heap b2 (o := 7) rfl
  have q8 : wr.cell? ⟨w.heap.size + 1, 8, none⟩ = _ := cell_heap b2 (o := 8) rfl
  have q9 : wr.cell? ⟨w.heap.size + 1, 9, none⟩ = _ := cell_heap b2 (o := 9) rfl
  have q10 : wr.cell? ⟨w.heap.size + 1, 10, none⟩ = _ := cell_heap b2 (o := 10) rfl
  have q11 : wr.cell? ⟨w.heap.size + 1, 11, none⟩ = _ := cell_heap b2 (o := 11) rfl
  have q12 : wr.cell? ⟨w.heap.size + 1, 12, none⟩ = _ := cell_heap b2 (o := 12) rfl
  clear hi b1 b2
  by_cases hlt : i < n
  ·obtain ⟨x, b, off, cs, hx, rfl, hbb, ⟨rfl, _⟩, hcs⟩ := (h1.kept (HkW.out.trans' hk)).at hlt
   obtain ⟨x', b', off', cs', hx', rfl, hbb', ⟨rfl, _⟩, hcs'⟩ := (h2.kept (HkW.out.trans' hk)).at hlt
   obtain rfl : x' = x := Option.some.inj (hx'.symm.trans hx)
   have x0 : wr.cell? ⟨b, off + i, none⟩ = some (.int .u32 x') := by have := hcs 0 _ rfl; simpa [u32T, Ty.flat] using this
   have y0 : wr.cell? ⟨b', off' + i, none⟩ = some (.int .u32 x') := by have := hcs' 0 _ rfl; simpa [u32T, Ty.flat] using this
   have hbl : b < wr.heap.size := hbb
   have hbl' : b' < wr.heap.size := hbb'
   have hi0 : (0 : Int) ≤ (i : Int) := by omega
   have hlt' : (i : Int) < (n : Int) := by omega
   clear hx hx' hcs hcs'
   go_wp2_with fail
   go_quiet (fail)
   go_wp2_with fail
   go_roundg (gk - 1)
   case measure => have := Hi.out; omega
   case rel => exact ⟨i + 1, by have := Hi.out; omega, by go_num, below_drewN hk _⟩
  ·have hge : (n : Int) ≤ (i : Int) := by omega
   go_wp2_with fail
   go_ret
   exact ⟨rfl, HkW.out.trans' hk⟩
def Hit (k u : Int) (f : Fd) : Prop := f.kind = k ∧ f.const = false ∧ u ∈ f.usages
def FindIs (l : List Fd) (k u : Int) (a b e : Int) : Prop :=
 (∃ (i : Nat) (f : Fd) (n : Int), l[i]? = some f ∧ Hit k u f ∧ (∀ j g, j < i → l[j]? = some g → ¬ Hit k u g) ∧ IdxIs f.usages u n ∧ a = i ∧ b = (if f.array then n else min n (f.count - 1)) ∧ e = 0) ∨
 ((∀ f ∈ l, ¬ Hit k u f) ∧ a = 0 ∧ b = 0 ∧ e = 7)
theorem idx_mem {l : List Int} {u i : Int} (h : IdxIs l u i) : (0 ≤ i ∧ u ∈ l) ∨ (i = -1 ∧ u ∉ l) := by
 rcases h with ⟨k, rfl, h1, _⟩ | h
 ·exact .inl ⟨by omega, List.mem_of_getElem? h1⟩
 ·exact .inr h
set_option maxRecDepth 100000 in
theorem find23 (A C : Option Addr) (n c nc cc : Nat) (nb : Bool) (l : List Fd) (k u : Int) (w : World) (hn : n ≤ 256) (hcs : ∀ f ∈ l, 1 ≤ f.count ∧ f.count ≤ 256) (hl : Sl fdT w (low w.heap.size) A n l) :
  Calls Try.prog 23 #[.agg #[.slice A n c, .slice C nc cc, .bool nb], .int .u8 k, .int .u32 u] w fun e w' => (∃ a b r, e = .returned (.tuple #[.int .i64 a, .int .i64 b, .int .i64 r]) ∧ FindIs l k u a b r) ∧ Kept w w' := by
 have Hcs := hide hcs
 clear hcs
 go_enter Try.func23, Try.ntmps23
 go_wp2_with fail
 refine wp_at (fun W => Kept w W) (by go_grown) (fun W hkW => ?_)
 have HkW := hide hkW
 clear hkW
 go_loopg [15] n (fun g tQ wr => ∃ i : Nat, i + g = n ∧ tQ = .int .i64 i ∧ Kept W wr ∧ Hid (∀ j g, j < i → l[j]? = some g → ¬ Hit k u g))
 case atStart => exact ⟨0, by omega, rfl, Below.refl _ _, fun j g hj => by omega⟩
 case round =>
  obtain ⟨i, hi, rfl, hk, hno⟩ := hrel
  have Hi := hide hi
  have hkz := hk.size
  clear hi
  by_cases hlt : i < n
  ·obtain ⟨f, b, off, cs, hf, rfl, hbb, ⟨A', rfl, hul, hsu⟩, hcs⟩ := (hl.kept (HkW.out.trans' hk)).at hlt
   have hcs' : ∀ (j : Nat) v, (f.cells A')[j]? = some v → wr.cell? ⟨b, off + i * 13 + j, none⟩ = some v := fun j v h => hcs j v h
   have x0 : wr.cell? ⟨b, off + i * 13, none⟩ = _ := hcs' 0 _ rfl
   have x1 := hcs' 1 _ rfl
   have x2 := hcs' 2 _ rfl
   have x3 := hcs' 3 _ rfl
   have x4 := hcs' 4 _ rfl
   have x5 := hcs' 5 _ rfl
   have x6 := hcs' 6 _ rfl
   have x7 := hcs' 7 _ rfl
   have x8 := hcs' 8 _ rfl
   have x9 := hcs' 9 _ rfl
   have x10 := hcs' 10 _ rfl
   have x11 := hcs' 11 _ rfl
   have x12 := hcs' 12 _ rfl
   have hbl : b < wr.heap.size := hbb
   have hi0 : (0 : Int) ≤ (i : Int) := by omega
   have hlt' : (i : Int) < (n : Int) := by omega
   obtain ⟨a3, a4⟩ := Hcs.out f (List.mem_of_getElem? hf)
   have hix : ∀ w' : World, Kept wr w' → Calls Try.prog 36 #[.slice A' f.usages.length f.usages.length, .int .u32 u] w' fun e w'' => (∃ i, e = .returned (.int .i64 i) ∧ Hid (IdxIs f.usages u i)) ∧ w' = w'' := fun w' hk' => index36 A' _ _ f.usages u w' hul (hsu.kept hk')
   have hul' := hul
   unfold maxLen at hul'
   have hw1 : IntKind.i64.wrap (f.count - 1) = f.count - 1 := by rw [IntKind.wrap_i64]; omega
   have Hf := hide hf
   have next : ¬ Hit k u f → ∀ j g, j < i + 1 → l[j]? = some g → ¬ Hit k u g := fun hnh j g hj hg => by
    by_cases e : j = i
    ·subst e
     rw [Hf.out] at hg
     injection hg with hg
     subst hg
     exact hnh
    ·exact hno.out j g (by omega) hg
   have Next := hide next
   clear hcs hcs' hf hul hsu next
   by_cases c1 : f.kind = k
   ·have d1 : (f.kind != k) = false := by simpa using c1
    have C1 := hide c1
    clear c1
    cases c2 : f.const with
    | true =>
     rw [c2] at x9
     have Hnh := hide (show ¬ Hit k u f from fun h => by rw [h.2.1] at c2; cases c2)
     clear c2
     go_wp2_with (go_at_call 36; refine (hix _ (by go_grown)).mono ?_; rintro e w1 ⟨⟨z, rfl, hz⟩, rfl⟩)
     go_roundg (gk - 1)
     case measure => have := Hi.out; omega
     case rel => exact ⟨i + 1, by have := Hi.out; omega, by go_num, by go_grown, hide (Next.out Hnh.out)⟩
    | false =>
     rw [c2] at x9
     have C2 := hide c2
     clear c2
     cases c3 : f.array with
     | true =>
      rw [c3] at x10
      have C3 := hide c3
      clear c3
      go_wp2_with (go_at_call 36; refine (hix _ (by go_grown)).mono ?_; rintro e w1 ⟨⟨z, rfl, hz⟩, rfl⟩)
      ·have hzz : z < 0 := by first | assumption | omega
       have Hnh := hide (show ¬ Hit k u f from fun h => by
        rcases idx_mem hz.out with ⟨h1, _⟩ | ⟨_, h1⟩
        ·omega
        ·exact h1 h.2.2)
       go_roundg (gk - 1)
       case measure => have := Hi.out; omega
       case rel => exact ⟨i + 1, by have := Hi.out; omega, by go_num, by go_grown, hide (Next.out Hnh.out)⟩
      ·have hzz : 0 ≤ z := by first | assumption | omega
       have hmem : u ∈ f.usages := by
        rcases idx_mem hz.out with ⟨_, h1⟩ | ⟨h1, _⟩
        ·exact h1
        ·omega
       go_ret3
       refine ⟨⟨i, z, 0, rfl, .inl ⟨i, f, z, Hf.out, ⟨C1.out, C2.out, hmem⟩, hno.out, hz.out, rfl, ?_, rfl⟩⟩, HkW.out.trans' (hk.trans' (by go_grown))⟩
       rw [C3.out]; simp
     | false =>
      rw [c3] at x10
      have C3 := hide c3
      clear c3
      go_wp2_with (go_at_call 36; refine (hix _ (by go_grown)).mono ?_; rintro e w1 ⟨⟨z, rfl, hz⟩, rfl⟩)
      ·have hzz : z < 0 := by first | assumption | omega
       have Hnh := hide (show ¬ Hit k u f from fun h => by
        rcases idx_mem hz.out with ⟨h1, _⟩ | ⟨_, h1⟩
        ·omega
        ·exact h1 h.2.2)
       go_roundg (gk - 1)
       case measure => have := Hi.out; omega
       case rel => exact ⟨i + 1, by have := Hi.out; omega, by go_num, by go_grown, hide (Next.out Hnh.out)⟩
      all_goals
       have hzz : 0 ≤ z := by first | assumption | omega
       have hmem : u ∈ f.usages := by
        rcases idx_mem hz.out with ⟨_, h1⟩ | ⟨h1, _⟩
        ·exact h1
        ·omega
       go_ret3
       refine ⟨⟨i, _, 0, rfl, .inl ⟨i, f, z, Hf.out, ⟨C1.out, C2.out, hmem⟩, hno.out, hz.out, rfl, ?_, rfl⟩⟩, HkW.out.trans' (hk.trans' (by go_grown))⟩
       rw [C3.out]; simp <;> omega
   ·have d1 : (f.kind != k) = true := by simpa using c1
    have Hnh := hide (show ¬ Hit k u f from fun h => c1 h.1)
    clear c1
    go_wp2_with (go_at_call 36; refine (hix _ (by go_grown)).mono ?_; rintro e w1 ⟨⟨z, rfl, hz⟩, rfl⟩)
    go_roundg (gk - 1)
    case measure => have := Hi.out; omega
    case rel => exact ⟨i + 1, by have := Hi.out; omega, by go_num, by go_grown, hide (Next.out Hnh.out)⟩
  ·have hge : (n : Int) ≤ (i : Int) := by omega
   go_wp2_with fail
   go_ret3
   refine ⟨⟨0, 0, 7, rfl, .inr ⟨fun f hf => ?_, rfl, rfl, rfl⟩⟩, HkW.out.trans' hk⟩
   obtain ⟨j, hj, rfl⟩ := List.getElem_of_mem hf
   have hln := hl.1
   exact hno.out j _ (by omega) (List.getElem?_eq_getElem hj)
end Go.Proofs.Ytegdigfcgeoboaa
namespace Go.Proofs.Ytegdigfcgeoboaa
open Go
def fromR (k : Nat) : Code → Option Code
 | .seq (.region i o b) c => if i = k then some (.seq (.region i o b) c) else fromR k c
 | .seq _ c => fromR k c
 | .block _ c => fromR k c
 | .scope c => fromR k c
 | _ => none
def headC : Code → Code
 | .seq a _ => a
 | c => c
def restC : Code → Code
 | .seq _ b => b
 | _ => .skip
def opsOf : Code → Array Oper
 | .region _ o _ => o
 | _ => #[]
def opAt (ops : Array Oper) (i : Nat) : Oper := match ops.toList.drop i with
 | o :: _ => o
 | [] => ⟨none, .move (.const (.bool false)), 0, "", #[], none⟩
section
variable {P : Program} {ops : Array Oper} {Q : Exit → Act → World → Prop}
theorem wp_region_held_named {S : World → Prop} {ops' : Array Oper} {n : Nat} {id : Nat} {a : Act} {w : World} (he : ops' = ops) (hn : ops'.size = n) (hm : P.follows .mixedOrders = true) (hS : S w.drew)
  (h : S w.drew → wpAnyH P .any ops' Q S n (Array.replicate n false) a w.drew) : (Code.region id ops true).wp P Q a w := by
 subst he hn
 exact wp_region_held_drew hm hS h
end
theorem opE (ops : Array Oper) (i : Nat) (h : (ops[i]?).isSome = true) : ops[i]? = some (opAt ops i) := by
 obtain ⟨o, ho⟩ := Option.isSome_iff_exists.1 h
 rw [ho]
 unfold opAt
 obtain ⟨h1, h2⟩ := Array.getElem?_eq_some_iff.1 ho
 rw [List.drop_eq_getElem_cons (by simpa using h1)]
 simp [← h2]
end Go.Proofs.Ytegdigfcgeoboaa
