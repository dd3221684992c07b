/- More methods of the reader. -/
import Derived.Test.YtegdigfcgeoboaaChecked
import Derived.Deep.RegionHeld3
import Derived.Deep.DrawnRows
import Derived.Deep.DeepCutAuto
import Derived.Deep.LoopGhost
import Derived.Outline
import Derived.Handy
import Derived.OwnWalk
import Derived.Deep.RegionLaw
import Derived.Test.YtegdigfcgeoboaaN4
import Derived.Deep.DeepMust
set_option linter.unusedVariables false
set_option linter.unusedSimpArgs false
set_option linter.unusedSectionVars false
/- The reader's push and pop. -/
namespace Go.Proofs.Ytegdigfcgeoboaa
open Go.RowKit Go.Maps
attribute [local go_sem ↓] Go.wp_at_zero Go.wp_at_succ

theorem info83 : (Try.prog.info? 83).map (fun i => (i.zero, i.size, i.bytes)) = some (some (.agg #[.int .u32 0, .int .i64 0, .int .i64 0, .int .u32 0, .int .u32 0, .int .u32 0]), 6, 40) := by kernel_rfl
theorem Fr.grow {α : Type} {t : Ty α} {e : TypeId} {base R m n : Nat} {w w' : World} {v : Value} {xs : List α} (h : Below base w w') (hg : w.grownBy w' v.ownBlock) (ho : Own t e base w v n xs) (he : e ≠ 29) : Fr base R m w w' := by
  refine ⟨h.os, h.tape, h.output, h.size, fun k h1 _ _ => h.block k h1, fun k cs _ _ h3 => (hg.block k (heap_lt h3) (fun e2 => ?_)).trans h3⟩
  obtain ⟨_, _, ⟨_, h2⟩, _⟩ := ho
  rcases h2 with ⟨rfl, _⟩ | ⟨g, cap, cur, rfl, _, hg2, _⟩
  · cases e2
  · have e3 : k = g := by simpa [Value.ownBlock] using e2
    subst e3
    rw [hg2] at h3
    injection h3 with h3
    injection h3 with _ h3 _
    exact he h3
set_option maxRecDepth 100000 in
set_option maxHeartbeats 1000000 in
theorem push_any {w : World} {base R m : Nat} {vs vu vf vc : Value} {s : RS} (h : Rd w base R m vs vu vf vc s) (hb : base ≤ w.heap.size) (hs : s.Fine) (x : It) (h1 : x.ty = 1) (h2 : x.tg = 10) :
    Calls Try.prog 51 #[.pointer (some ⟨R, 0, none⟩), itV x] w (Did base R m w (effS s x)) := by
  have hE : effS s x = if 8 ≤ s.stack.length then (3, s) else (0, { s with stack := s.stack ++ [s.g] }) := by simp [effS, h1, h2]
  rw [hE]
  clear hE
  have hdp := hs.depth
  have c0 : w.cell? ⟨R, 0, none⟩ = some (.int .u32 s.g.page) := cell_heap h.box (o := 0) rfl
  have c1 : w.cell? ⟨R, 1, none⟩ = some (.int .i64 s.g.lo) := cell_heap h.box (o := 1) rfl
  have c2 : w.cell? ⟨R, 2, none⟩ = some (.int .i64 s.g.hi) := cell_heap h.box (o := 2) rfl
  have c3 : w.cell? ⟨R, 3, none⟩ = some (.int .u32 s.g.size) := cell_heap h.box (o := 3) rfl
  have c4 : w.cell? ⟨R, 4, none⟩ = some (.int .u32 s.g.count) := cell_heap h.box (o := 4) rfl
  have c5 : w.cell? ⟨R, 5, none⟩ = some (.int .u32 s.g.report) := cell_heap h.box (o := 5) rfl
  have c6 : w.cell? ⟨R, 6, none⟩ = some vs := cell_heap h.box (o := 6) rfl
  have hRl := heap_lt h.box
  have hRb := h.low.1
  obtain ⟨A, cc, rfl, hA1, hA2⟩ := h.st.isSlice
  obtain ⟨i1, hi1, hz0, hz1, hz2⟩ := info_parts info83
  unfold itV
  by_cases c : 8 ≤ s.stack.length
  · rw [if_pos c]
    have c' : (8 : Int) ≤ (s.stack.length : Int) := by omega
    go_enter Try.func51, Try.ntmps51
    go_wp2_with fail
    go_ret
    exact ⟨rfl, Fr.kept (by go_grown) hb, fun e => by cases e⟩
  · rw [if_neg c]
    have c' : (s.stack.length : Int) < 8 := by omega
    go_enter Try.func51, Try.ntmps51
    go_wp2_with fail
    go_region_law (first
      | (refine step_append_el (T := glT) rfl (.tmp 15) (.tmp 20) 84 rfl base 83 i1 _ 40 Try.underlying84 hi1 hz0 hz1 hz2 rfl (by decide) _ s.stack.length s.stack (by rfl) (((h.st.alloc _).drew).alloc _) (w.heap.size + 1) _ _ s.g (by rfl) (heap_at _ (by simp)) ⟨rfl, trivial⟩ (by simp [Value.oneCell']) (by unfold maxLen; omega) (by omega) (by simp; omega) ?_; intro g cap w4 hown4 hg4 hb4 hat4 hlt4; have hbx4 := (hb4.block R hRb).trans (heap_kept (show Kept w _ by go_grown) h.box); have c6' := cell_heap hbx4 (o := 6) rfl; have f6' := frozen_heap hbx4 (o := 6); have hl4 := heap_lt hbx4))
    all_goals
      go_wp2_with fail
      go_ret
      have hkW := (show Kept w ((w.alloc (.cells #[.int .u8 1, .int .u8 10, .int .i64 x.size, .int .u32 x.data] 29)).alloc (.cells s.g.cells.toArray 83)).drew by go_grown)
      exact ⟨rfl, ((Fr.kept hkW hb).trans (Fr.grow hb4 hg4 (((h.st.alloc _).drew).alloc _) (by decide))).trans (Fr.set 6 _), fun _ => ⟨_, _, _, _, (h.kept hkW).stackAdd hg4 hown4 hat4⟩⟩
set_option maxRecDepth 100000 in
set_option maxHeartbeats 1000000 in
theorem pop_any {w : World} {base R m : Nat} {vs vu vf vc : Value} {s : RS} (h : Rd w base R m vs vu vf vc s) (hb : base ≤ w.heap.size) (hs : s.Fine) (x : It) (h1 : x.ty = 1) (h2 : x.tg = 11) :
    Calls Try.prog 52 #[.pointer (some ⟨R, 0, none⟩), itV x] w (Did base R m w (effS s x)) := by
  have hE : effS s x = (match s.stack.getLast? with | none => (4, s) | some g => (0, { s with g := g, stack := s.stack.dropLast })) := by
    unfold effS
    rw [if_neg (by omega), if_pos h1, if_neg (by omega), if_neg (by omega), if_neg (by omega), if_neg (by omega), if_neg (by omega), if_neg (by omega), if_neg (by omega), if_neg (by omega), if_pos h2]
    cases s.stack.getLast? <;> rfl
  have hdp := hs.depth
  have hbx := h.box
  have c0 := cell_heap h.box (o := 0) rfl
  have c1 := cell_heap h.box (o := 1) rfl
  have c2 := cell_heap h.box (o := 2) rfl
  have c3 := cell_heap h.box (o := 3) rfl
  have c4 := cell_heap h.box (o := 4) rfl
  have c5 := cell_heap h.box (o := 5) rfl
  have c6 : w.cell? ⟨R, 6, none⟩ = some vs := cell_heap h.box (o := 6) rfl
  have f0 := frozen_heap h.box (o := 0)
  have f1 := frozen_heap h.box (o := 1)
  have f2 := frozen_heap h.box (o := 2)
  have f3 := frozen_heap h.box (o := 3)
  have f4 := frozen_heap h.box (o := 4)
  have f5 := frozen_heap h.box (o := 5)
  have f6 := frozen_heap h.box (o := 6)
  have hRl := heap_lt h.box
  have hRb := h.low.1
  obtain ⟨A, cc, rfl, hA1, hA2⟩ := h.st.isSlice
  unfold itV
  by_cases c : s.stack.length = 0
  · have hG : s.stack.getLast? = none := by rw [List.eq_nil_of_length_eq_zero c]; rfl
    rw [hE, hG]
    go_enter Try.func52, Try.ntmps52
    go_wp2_with fail
    go_ret
    exact ⟨rfl, Fr.kept (by go_grown) hb, fun e => by cases e⟩
  · obtain ⟨n, hn⟩ : ∃ n, s.stack.length = n + 1 := ⟨s.stack.length - 1, by omega⟩
    obtain ⟨y, b, off, cs, hy, rfl, hbb, ⟨rfl, _⟩, hcs⟩ := h.st.sl.at (show n < s.stack.length by omega)
    have hG : s.stack.getLast? = some y := by rw [List.getLast?_eq_getElem?, hn]; exact hy
    rw [hE, hG]
    clear hE hG
    have y0 : w.cell? ⟨b, off + n * 6, none⟩ = some (.int .u32 y.page) := hcs 0 _ rfl
    have y1 : w.cell? ⟨b, off + n * 6 + 1, none⟩ = some (.int .i64 y.lo) := hcs 1 _ rfl
    have y2 : w.cell? ⟨b, off + n * 6 + 2, none⟩ = some (.int .i64 y.hi) := hcs 2 _ rfl
    have y3 : w.cell? ⟨b, off + n * 6 + 3, none⟩ = some (.int .u32 y.size) := hcs 3 _ rfl
    have y4 : w.cell? ⟨b, off + n * 6 + 4, none⟩ = some (.int .u32 y.count) := hcs 4 _ rfl
    have y5 : w.cell? ⟨b, off + n * 6 + 5, none⟩ = some (.int .u32 y.report) := hcs 5 _ rfl
    have hbl : b < w.heap.size := hbb
    clear hcs
    have hoff : off = 0 := by
      rcases h.st.form with ⟨e, _⟩ | ⟨g, cap, e, _⟩
      · injection e with e; cases e
      · injection e with e _ _; injection e with e; injection e
    subst hoff
    simp only [Nat.zero_add] at y0 y1 y2 y3 y4 y5
    have hnl : (s.stack.length : Int) = (n : Int) + 1 := by omega
    have hn8 : (n : Int) < 8 := by omega
    go_enter Try.func52, Try.ntmps52
    go_wp2_with fail
    go_region
    go_wp2_with fail
    go_region
    go_wp2_with fail
    go_ret
    have k0 := h.set 0 (.int .u32 y.page) (s' := { s with g := { s.g with page := y.page } }) rfl rfl rfl rfl rfl
    have k1 := k0.set 1 (.int .i64 y.lo) (s' := { s with g := { s.g with page := y.page, lo := y.lo } }) rfl rfl rfl rfl rfl
    have k2 := k1.set 2 (.int .i64 y.hi) (s' := { s with g := { s.g with page := y.page, lo := y.lo, hi := y.hi } }) rfl rfl rfl rfl rfl
    have k3 := k2.set 3 (.int .u32 y.size) (s' := { s with g := { s.g with page := y.page, lo := y.lo, hi := y.hi, size := y.size } }) rfl rfl rfl rfl rfl
    have k4 := k3.set 4 (.int .u32 y.count) (s' := { s with g := { s.g with page := y.page, lo := y.lo, hi := y.hi, size := y.size, count := y.count } }) rfl rfl rfl rfl rfl
    have k5 := k4.set 5 (.int .u32 y.report) (s' := { s with g := y }) rfl rfl rfl rfl rfl
    have hdl : s.stack.dropLast.length = n := by rw [List.length_dropLast]; omega
    have k6 := k5.stackTo (l := s.stack.dropLast) (v' := .slice (some ⟨b, 0, none⟩) n cc) grown_self (by rw [hdl, List.dropLast_eq_take, hn]; exact Own.take k5.st (by omega)) (.inr (.inl rfl))
    refine ⟨rfl, (((((((Fr.set 0 _).trans (Fr.set 1 _)).trans (Fr.set 2 _)).trans (Fr.set 3 _)).trans (Fr.set 4 _)).trans (Fr.set 5 _)).trans (Fr.set 6 _)).trans (Fr.kept (by go_grown) (by simp only [World.size_setCell]; exact hb)), fun _ => ⟨_, _, _, _, k6.kept (by go_grown)⟩⟩
end Go.Proofs.Ytegdigfcgeoboaa
/- The reader's add: usages in a row. -/
namespace Go.Proofs.Ytegdigfcgeoboaa
open Go.RowKit Go.Maps
attribute [local go_sem ↓] Go.wp_at_zero Go.wp_at_succ

theorem info27 : (Try.prog.info? 27).map (fun i => (i.zero, i.size, i.bytes)) = some (some (.int .u32 0), 1, 4) := by kernel_rfl
def rowU (s : RS) (lo : Int) (k : Nat) : RS := { s with usages := s.usages ++ (List.range k).map (fun (i : Nat) => lo + (i : Int)) }
theorem rowU_succ (s : RS) (lo : Int) (k : Nat) : rowU s lo (k + 1) = { rowU s lo k with usages := (rowU s lo k).usages ++ [lo + (k : Int)] } := by
  unfold rowU
  rw [List.range_succ, List.map_append, ← List.append_assoc]; rfl
set_option maxRecDepth 100000 in
set_option maxHeartbeats 1000000 in
theorem add_any {w : World} {base R m : Nat} {vs vu vf vc : Value} {s : RS} (h : Rd w base R m vs vu vf vc s) (hb : base ≤ w.heap.size) (hu : s.usages.length ≤ 512) (lo hi : Int) (hlo : u32k lo) (hhi : u32k hi) (hle : lo ≤ hi) :
    Calls Try.prog 62 #[.pointer (some ⟨R, 0, none⟩), .int .u32 lo, .int .u32 hi] w (Did base R m w (addS s lo hi)) := by
  unfold u32k at hlo hhi
  obtain ⟨i1, hi1, hz0, hz1, hz2⟩ := info_parts info27
  have hRb := h.low.1
  have hwlo : IntKind.u64.wrap lo = lo := by rw [IntKind.wrap_u64]; omega
  have hwhi : IntKind.u64.wrap hi = hi := by rw [IntKind.wrap_u64]; omega
  go_enter Try.func62, Try.ntmps62
  go_wp2_with fail
  go_loopg [7] (hi - lo + 1).toNat (fun g s7 wr => ∃ k : Nat, k + g = (hi - lo + 1).toNat ∧ s7 = .int .u64 (lo + k) ∧ s.usages.length + k ≤ 512 ∧ Fr base R m w wr ∧ ∃ vs vu vf vc, Rd wr base R m vs vu vf vc (rowU s lo k))
  case atStart => exact ⟨0, by omega, by rw [Int.natCast_zero, Int.add_zero], by omega, Fr.refl, vs, vu, vf, vc, by unfold rowU; simpa using h⟩
  case round =>
    obtain ⟨k, hk, rfl, hk5, hfr, vs', vu', vf', vc', hr⟩ := hrel
    obtain ⟨A, cc, rfl, hA1, hA2⟩ := hr.us.isSlice
    have c7 : wr.cell? ⟨R, 7, none⟩ = some (.slice A (rowU s lo k).usages.length cc) := cell_heap hr.box (o := 7) rfl
    have hRl := heap_lt hr.box
    have hL : (rowU s lo k).usages.length = s.usages.length + k := by unfold rowU; simp
    have HL := hide hL
    clear hL
    have hbr : base ≤ wr.heap.size := Nat.le_trans hb hfr.size
    by_cases hlt : lo + k ≤ hi
    · have hA : (addS s lo hi) = if 512 < (s.usages.length : Int) + (hi - lo + 1) then (3, s) else (0, rowU s lo (hi - lo + 1).toNat) := rfl
      by_cases hfull : 512 ≤ s.usages.length + k
      · have hf1 : (512 : Int) ≤ ((rowU s lo k).usages.length : Int) := by have := HL.out; omega
        rw [hA, if_pos (by omega)]
        go_wp2_with fail
        go_ret
        exact ⟨rfl, hfr, fun e => by cases e⟩
      · have hf1 : ((rowU s lo k).usages.length : Int) < 512 := by have := HL.out; omega
        have hw32 : IntKind.u32.wrap (lo + k) = lo + k := by rw [IntKind.wrap_u32]; omega
        have hw64 : IntKind.u64.wrap (lo + k + 1) = lo + k + 1 := by rw [IntKind.wrap_u64]; omega
        go_wp2_with (at_builtin; go_must (refine wpList_append_el (T := u32T) rfl (.tmp 26) (.tmp 29) 57 rfl base 27 i1 _ 4 Try.underlying57 hi1 hz0 hz1 hz2 rfl (by decide) _ (rowU s lo k).usages.length (rowU s lo k).usages (by rfl) (hr.us.alloc _) wr.heap.size _ _ (lo + k) (by rfl) (heap_at _ rfl) ⟨rfl, by unfold u32k; omega⟩ (by simp [Value.oneCell']) (by unfold maxLen; omega) (by omega) (by simp; omega) ?_); intro g cap w4 hown4 hg4 hb4 hat4 hlt4; have hbx4 := (hb4.block R hRb).trans (heap_kept (show Kept wr _ by go_grown) hr.box); have c6' := cell_heap hbx4 (o := 7) rfl; have f6' := frozen_heap hbx4 (o := 7); have hl4 := heap_lt hbx4)
        have hkW := (show Kept wr (wr.alloc (.cells #[.int .u32 (lo + k)] 27)) by go_grown)
        have hr4 := (hr.kept hkW).usagesAdd hg4 hown4 hat4
        rw [← rowU_succ] at hr4
        go_roundg (gk - 1)
        case measure => omega
        case rel =>
          exact ⟨k + 1, by omega, by go_num, by omega, ((hfr.trans (Fr.kept hkW hbr)).trans (Fr.grow hb4 hg4 (hr.us.alloc _) (by decide))).trans (Fr.set 7 _), _, _, _, _, hr4⟩
    · have hk' : k = (hi - lo + 1).toNat := by omega
      have hlt' : hi < lo + k := by omega
      have hA : (addS s lo hi) = if 512 < (s.usages.length : Int) + (hi - lo + 1) then (3, s) else (0, rowU s lo (hi - lo + 1).toNat) := rfl
      rw [hA, if_neg (by omega)]
      go_wp2_with fail
      go_ret
      rw [hk'] at hr
      exact ⟨rfl, hfr, fun _ => ⟨_, _, _, _, hr⟩⟩
end Go.Proofs.Ytegdigfcgeoboaa
/- The reader's one and several. -/
namespace Go.Proofs.Ytegdigfcgeoboaa
open Go.RowKit Go.Maps
attribute [local go_sem ↓] Go.wp_at_zero Go.wp_at_succ

theorem Did.from {base R m : Nat} {w w1 w' : World} {r : Int × RS} {e : Ending} (h : Did base R m w1 r e w') (hf : Fr base R m w w1) : Did base R m w r e w' := ⟨h.1, hf.trans h.2.1, h.2.2⟩
/-- grown from w, whose next block holds an item -/
def Bx (w : World) (x : It) (w' : World) : Prop := Kept w w' ∧ w'.heap[w.heap.size]? = some (.cells #[.int .u8 x.ty, .int .u8 x.tg, .int .i64 x.size, .int .u32 x.data] 29 (0, 0))
theorem Bx.keep {w w' w'' : World} {x : It} (h : Bx w x w') (hk : Kept w' w'') : Bx w x w'' := ⟨h.1.trans' hk, heap_kept hk h.2⟩
theorem Bx.drew {w w' : World} {x : It} (h : Bx w x w') : Bx w x w'.drew := h.keep (Below.refl _ _).drew
theorem Bx.new (w : World) (x : It) : Bx w x (w.alloc (.cells #[.int .u8 x.ty, .int .u8 x.tg, .int .i64 x.size, .int .u32 x.data] 29)) := ⟨by go_grown, heap_at _ rfl⟩
set_option maxRecDepth 100000 in
set_option maxHeartbeats 1000000 in
theorem one_any {w : World} {base R m : Nat} {vs vu vf vc : Value} {s : RS} (h : Rd w base R m vs vu vf vc s) (hb : base ≤ w.heap.size) (hs : s.Fine) (x : It) (hw : x.wide = true) (hok : x.ok) (h1 : x.ty = 2) (h2 : x.tg = 0) :
    Calls Try.prog 53 #[.pointer (some ⟨R, 0, none⟩), itV x] w (Did base R m w (effS s x)) := by
  have hE : effS s x = addS s (usageS s x) (usageS s x) := by simp [effS, h1, h2]
  rw [hE]
  clear hE
  have hu := usage_range hs hw hok
  have hus : ∀ {w'}, Bx w x w' → Calls Try.prog 63 #[.pointer (some ⟨R, 0, none⟩), itV x] w' fun e w'' => e = .returned (.int .u32 (usageS s x)) ∧ Bx w x w'' :=
    fun hk => (usage_any (h.kept hk.1) hs x hw hok).mono fun e w'' ⟨e1, e2⟩ => ⟨e1, hk.keep e2⟩
  have hnew := Bx.new w x
  have had : ∀ {w'}, Bx w x w' → Calls Try.prog 62 #[.pointer (some ⟨R, 0, none⟩), .int .u32 (usageS s x), .int .u32 (usageS s x)] w' (Did base R m w (addS s (usageS s x) (usageS s x))) :=
    fun hk => (add_any (h.kept hk.1) (Nat.le_trans hb hk.1.size) hs.usages.1 _ _ hu hu (Int.le_refl _)).mono fun e w'' hd => hd.from (Fr.kept hk.1 hb)
  generalize addS s (usageS s x) (usageS s x) = res at *
  generalize usageS s x = u at *
  unfold itV at hus ⊢
  rw [h1, h2] at hus hnew
  go_enter Try.func53, Try.ntmps53
  go_wp2_with fail
  go_region_with (first
    | (go_at_call 63; refine (hus (by first | assumption | exact Bx.drew (by assumption))).mono ?_; rintro e w1 ⟨rfl, hk⟩; have hq := hk.2; rw [h1, h2] at hq; have q0 := cell_heap hq (o := 0) rfl; have q1 := cell_heap hq (o := 1) rfl; have q2 := cell_heap hq (o := 2) rfl; have q3 := cell_heap hq (o := 3) rfl; have hql := heap_lt hq)
    | (go_at_call 62; refine (had (by first | assumption | exact Bx.drew (by assumption))).mono ?_; rintro e w2 ⟨rfl, hf, hd⟩))
  all_goals
    go_wp2_with fail
    go_ret
    exact ⟨rfl, hf, hd⟩
end Go.Proofs.Ytegdigfcgeoboaa
/- The reader's several. -/
namespace Go.Proofs.Ytegdigfcgeoboaa
open Go.RowKit Go.Maps
attribute [local go_sem ↓] Go.wp_at_zero Go.wp_at_succ

set_option maxRecDepth 100000 in
set_option maxHeartbeats 1000000 in
theorem several_any {w : World} {base R m : Nat} {vs vu vf vc : Value} {s : RS} (h : Rd w base R m vs vu vf vc s) (hb : base ≤ w.heap.size) (hs : s.Fine) (x : It) (hw : x.wide = true) (hok : x.ok) (h1 : x.ty = 2) (h2 : x.tg = 2) :
    Calls Try.prog 55 #[.pointer (some ⟨R, 0, none⟩), itV x] w (Did base R m w (effS s x)) := by
  have hE : effS s x = if s.keeps = false ∨ usageS s x / 65536 ≠ s.kept / 65536 ∨ usageS s x < s.kept then (4, s) else addS { s with keeps := false } s.kept (usageS s x) := by simp [effS, h1, h2]
  rw [hE]
  clear hE
  have hu := usage_range hs hw hok
  have hkp := hs.kept
  have hus : ∀ {w'}, Bx w x w' → Calls Try.prog 63 #[.pointer (some ⟨R, 0, none⟩), itV x] w' fun e w'' => e = .returned (.int .u32 (usageS s x)) ∧ Bx w x w'' :=
    fun hk => (usage_any (h.kept hk.1) hs x hw hok).mono fun e w'' ⟨e1, e2⟩ => ⟨e1, hk.keep e2⟩
  have hnew := Bx.new w x
  generalize usageS s x = u at *
  unfold itV at hus ⊢
  rw [h1, h2] at hus hnew
  have hu' := hu
  have hkp' := hkp
  unfold u32k at hu hkp
  cases hkk : s.keeps with
  | false =>
    rw [if_pos (.inl rfl)]
    go_enter Try.func55, Try.ntmps55
    go_wp2_with (go_at_call 63; refine (hus (by assumption)).mono ?_; rintro e w1 ⟨rfl, hk⟩; have hr := h.kept hk.1; have c8 : w1.cell? ⟨R, 8, none⟩ = some (.int .u32 s.kept) := cell_heap hr.box (o := 8) rfl; have c9 : w1.cell? ⟨R, 9, none⟩ = some (.bool s.keeps) := cell_heap hr.box (o := 9) rfl; rw [hkk] at c9; have f9 := frozen_heap hr.box (o := 9); have hRl := heap_lt hr.box)
    go_ret
    exact ⟨rfl, Fr.kept hk.1 hb, fun e => by cases e⟩
  | true =>
    by_cases ca : u / 65536 = s.kept / 65536
    · by_cases cb : u < s.kept
      · rw [if_pos (.inr (.inr cb))]
        go_enter Try.func55, Try.ntmps55
        go_wp2_with (go_at_call 63; refine (hus (by assumption)).mono ?_; rintro e w1 ⟨rfl, hk⟩; have hr := h.kept hk.1; have c8 : w1.cell? ⟨R, 8, none⟩ = some (.int .u32 s.kept) := cell_heap hr.box (o := 8) rfl; have c9 : w1.cell? ⟨R, 9, none⟩ = some (.bool s.keeps) := cell_heap hr.box (o := 9) rfl; rw [hkk] at c9; have f9 := frozen_heap hr.box (o := 9); have hRl := heap_lt hr.box)
        go_ret
        exact ⟨rfl, Fr.kept hk.1 hb, fun e => by cases e⟩
      · rw [if_neg (fun h => h.elim (fun h => by cases h) (fun h => h.elim (fun h => h ca) cb))]
        have cb' : s.kept ≤ u := by omega
        go_enter Try.func55, Try.ntmps55
        go_wp2_with (first
          | (go_at_call 63; refine (hus (by assumption)).mono ?_; rintro e w1 ⟨rfl, hk⟩; have hr := h.kept hk.1; have c8 : w1.cell? ⟨R, 8, none⟩ = some (.int .u32 s.kept) := cell_heap hr.box (o := 8) rfl; have c9 : w1.cell? ⟨R, 9, none⟩ = some (.bool s.keeps) := cell_heap hr.box (o := 9) rfl; rw [hkk] at c9; have f9 := frozen_heap hr.box (o := 9); have hRl := heap_lt hr.box)
          | (go_at_call 62; refine (add_any (hr.set 9 (.bool false) (s' := { s with keeps := false }) rfl rfl rfl rfl rfl) (by rw [World.size_setCell]; exact Nat.le_trans hb hk.1.size) hs.usages.1 _ _ hkp' hu' cb').mono ?_; rintro e w2 ⟨rfl, hf, hd⟩))
        go_ret
        exact ⟨rfl, ((Fr.kept hk.1 hb).trans (Fr.set 9 _)).trans hf, hd⟩
    · rw [if_pos (.inr (.inl ca))]
      go_enter Try.func55, Try.ntmps55
      go_wp2_with (go_at_call 63; refine (hus (by assumption)).mono ?_; rintro e w1 ⟨rfl, hk⟩; have hr := h.kept hk.1; have c8 : w1.cell? ⟨R, 8, none⟩ = some (.int .u32 s.kept) := cell_heap hr.box (o := 8) rfl; have c9 : w1.cell? ⟨R, 9, none⟩ = some (.bool s.keeps) := cell_heap hr.box (o := 9) rfl; rw [hkk] at c9; have f9 := frozen_heap hr.box (o := 9); have hRl := heap_lt hr.box)
      go_ret
      exact ⟨rfl, Fr.kept hk.1 hb, fun e => by cases e⟩
end Go.Proofs.Ytegdigfcgeoboaa
/- Clone and Clip of usages. -/
namespace Go.Proofs.Ytegdigfcgeoboaa
open Go.RowKit
attribute [local go_sem ↓] Go.wp_at_zero Go.wp_at_succ

theorem eqlRow57 (a : Addr) (n c : Nat) (w : World) : (binOp .eql 57 (.slice (some a) n c) (.slice none 0 0)).run Try.prog w = .ok (.bool false) w := by kernel_rfl
theorem eqlNone57 (n c : Nat) (w : World) : (binOp .eql 57 (.slice none n c) (.slice none 0 0)).run Try.prog w = .ok (.bool true) w := by kernel_rfl
theorem clip75 (A : Option Addr) (n c : Nat) (hn : n ≤ c) (hc : c ≤ maxLen) (w : World) : Calls Try.prog 75 #[.slice A n c] w fun e w' => e = .returned (.slice A n n) ∧ w = w' := by
  unfold maxLen at hc
  go_enter Try.func75, Try.ntmps75
  go_wp2
  go_ret
  exact ⟨rfl, rfl⟩
theorem own_u32_new {w : World} {base n c : Nat} {A : Option Addr} {l : List Int} (h : Own u32T 27 base w (.slice A n c) n l) : Sl u32T w (fun g => base ≤ g ∧ g < w.heap.size) A n l :=
  ⟨h.1, fun i x hx => by
    obtain ⟨b, off, cs, e, hb, hr, hc⟩ := h.sl.2 i x hx
    subst e
    exact ⟨b, off, cs, rfl, ⟨(h.lt rfl).1, hb⟩, hr, hc⟩⟩
set_option maxRecDepth 100000 in
set_option maxHeartbeats 1000000 in
theorem clone76 (A : Option Addr) (n c : Nat) (l : List Int) (w : World) (hn : n ≤ 512) (hl : Sl u32T w (low w.heap.size) A n l) :
    Calls Try.prog 76 #[.slice A n c] w fun e w' => ∃ A' c', e = .returned (.slice A' n c') ∧ n ≤ c' ∧ c' ≤ maxLen ∧ Sl u32T w' (fun g => w.heap.size ≤ g ∧ g < w'.heap.size) A' n l ∧ Kept w w' := by
  obtain ⟨i3, hi3, hz30, hz31, hz32⟩ := info_parts info27
  cases A with
  | none =>
    have hn0 : n = 0 := by
      have h1 := hl.1
      cases l with
      | nil => simpa using h1.symm
      | cons x l =>
        obtain ⟨b, off, cs, e, _⟩ := hl.2 0 x rfl
        cases e
    subst hn0
    have hl0 : l = [] := List.eq_nil_of_length_eq_zero hl.1
    subst hl0
    have hE := eqlNone57 0 c
    go_enter Try.func76, Try.ntmps76
    go_wp2
    go_ret
    exact ⟨none, 0, rfl, Nat.le_refl _, by decide, Sl.nil _ _ _ _, Below.refl _ _⟩
  | some a =>
    have hE := eqlRow57 a n c
    go_enter Try.func76, Try.ntmps76
    go_wp2_with (at_builtin; refine wpList_append_sl (T := u32T) rfl (.tmp 5) (.tmp 6) 57 rfl w.heap.size 27 i3 _ 4 Try.underlying57 hi3 hz30 hz31 hz32 rfl (by decide) _ 0 [] (by rfl) (Own.lit0 u32T 27 _ (Nat.le_refl _) (heap_at _ rfl)) _ n c l (by rfl) (hl.keep (fun b hb => ⟨by have : b < w.heap.size := hb; simp; omega, by have : b < w.heap.size := hb; simp [Value.ownBlock]; omega⟩) (fun b o hb => by have : b < w.heap.size := hb; exact ((Below.refl _ _).alloc (Nat.le_refl _) _ : Kept w _).cell (p := ⟨b, o, none⟩) this)) (by rintro r cs ⟨rfl, _⟩ u hu; simp at hu; subst hu; rfl) (by unfold maxLen; omega) (by omega) (by simp) ?_; intro v7 w7 hown7 hg7 hb7 hat7)
    obtain ⟨A', c', rfl, hj1, hj2⟩ := hown7.isSlice
    rw [Nat.zero_add, List.nil_append] at hown7
    rw [Nat.zero_add] at hj1
    go_wp2
    go_ret
    exact ⟨A', c', by simp, hj1, hj2, own_u32_new hown7, Below.trans ((Below.refl _ _).alloc (Nat.le_refl _) _) hb7⟩
end Go.Proofs.Ytegdigfcgeoboaa
