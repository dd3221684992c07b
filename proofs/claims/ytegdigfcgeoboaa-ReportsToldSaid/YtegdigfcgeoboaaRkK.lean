/- The reader's begin: a collection. -/
import Derived.Test.YtegdigfcgeoboaaChecked
import Derived.Deep.RegionHeld3
import Derived.Deep.DrawnRows
import Derived.Deep.DeepCutAuto
import Derived.Deep.LoopGhost
import Derived.Outline
import Derived.Handy
import Derived.OwnWalk
import Derived.Deep.RegionLaw
import Derived.Test.YtegdigfcgeoboaaN5
set_option linter.unusedVariables false
set_option linter.unusedSimpArgs false
set_option linter.unusedSectionVars false
namespace Go.Proofs.Ytegdigfcgeoboaa
open Go.RowKit Go.Maps
attribute [local go_sem ↓] Go.wp_at_zero Go.wp_at_succ

theorem info68 : (Try.prog.info? 68).map (fun i => (i.zero, i.size, i.bytes)) = some (some (.agg #[.int .u8 0, .int .u32 0, .int .i64 0]), 3, 16) := by kernel_rfl
set_option maxRecDepth 100000 in
set_option maxHeartbeats 1000000 in
theorem begin_any {w : World} {base R m : Nat} {vs vu vf vc : Value} {s : RS} (h : Rd w base R m vs vu vf vc s) (hb : base ≤ w.heap.size) (hs : s.Fine) (x : It) (hw : x.wide = true) (hok : x.ok) (h1 : x.ty = 0) (h2 : x.tg = 10) :
    Calls Try.prog 41 #[.pointer (some ⟨R, 0, none⟩), itV x] w (Did base R m w (effS s x)) := by
  obtain ⟨d0, d1, _⟩ := data_lt hw hok
  have hE : effS s x = if 64 ≤ s.colls.length then (3, s) else (0, { s with opn := s.colls.length, colls := s.colls ++ [⟨x.data % 256, s.usages.headD 0, s.opn⟩] }) := by simp [effS, h1, h2]
  rw [hE]
  clear hE
  have hW : IntKind.u8.wrap x.data = x.data % 256 := by rw [IntKind.wrap_u8]
  have hcl := hs.colls.1
  have hul := hs.usages.1
  have c7 : w.cell? ⟨R, 7, none⟩ = some vu := cell_heap h.box (o := 7) rfl
  have c10 : w.cell? ⟨R, 10, none⟩ = some (.int .i64 s.opn) := cell_heap h.box (o := 10) rfl
  have f10 := frozen_heap h.box (o := 10)
  have c13 : w.cell? ⟨R, 13, none⟩ = some vc := cell_heap h.box (o := 13) rfl
  have hRl := heap_lt h.box
  have hRb := h.low.1
  have hRl1 : R < w.heap.size + 1 := by omega
  have hRl2 : R < w.heap.size + 1 + 1 := by omega
  have hRl3 : R < w.heap.size + 2 := by omega
  obtain ⟨A, cc, rfl, hA1, hA2⟩ := h.cs.isSlice
  obtain ⟨U, cu, rfl, hU1, hU2⟩ := h.us.isSlice
  obtain ⟨i1, hi1, hz0, hz1, hz2⟩ := info_parts info68
  have k2 := h.set 10 (.int .i64 s.colls.length) (s' := { s with opn := s.colls.length }) rfl rfl rfl rfl rfl
  unfold itV
  by_cases c : 64 ≤ s.colls.length
  · rw [if_pos c]
    have c' : (64 : Int) ≤ (s.colls.length : Int) := by omega
    go_enter Try.func41, Try.ntmps41
    go_wp2_with fail
    go_ret
    exact ⟨rfl, Fr.kept (by go_grown) hb, fun e => by cases e⟩
  · rw [if_neg c]
    have c' : (s.colls.length : Int) < 64 := by omega
    by_cases hu0 : s.usages.length = 0
    · have hhd : s.usages.headD 0 = 0 := by rw [List.eq_nil_of_length_eq_zero hu0]; rfl
      rw [hhd]
      have hui : (s.usages.length : Int) = 0 := by omega
      go_enter Try.func41, Try.ntmps41
      go_wp2_with fail
      go_region
      go_wp2_with fail
      go_region_law (first
        | (refine step_append_el (T := coT) rfl (.tmp 48) (.tmp 50) 38 rfl base 68 i1 _ 16 Try.underlying38 hi1 hz0 hz1 hz2 rfl (by decide) _ s.colls.length s.colls (by rfl) (((((k2.cs.alloc _).alloc _).drew).drew).alloc _) (w.heap.size + 1 + 1) _ _ ⟨x.data % 256, 0, s.opn⟩ (by rfl) (heap_at _ (by simp)) ⟨rfl, trivial⟩ (by simp [Value.oneCell']) (by unfold maxLen; omega) (by omega) (by simp; omega) ?_; intro g cap w4 hown4 hg4 hb4 hat4 hlt4; have hbx4 := (hb4.block R hRb).trans (heap_kept (show Kept (w.setCell ⟨R, 10, none⟩ (.int .i64 s.colls.length)) _ by go_grown) k2.box); have c6' := cell_heap hbx4 (o := 13) rfl; have f6' := frozen_heap hbx4 (o := 13); have hl4 := heap_lt hbx4))
      all_goals
        go_wp2_with fail
        go_ret
        have hkW := (show Kept (w.setCell ⟨R, 10, none⟩ (.int .i64 s.colls.length)) ((((w.setCell ⟨R, 10, none⟩ (.int .i64 s.colls.length)).alloc (.cells #[.int .u8 0, .int .u8 10, .int .i64 x.size, .int .u32 x.data] 29)).alloc (.cells #[.int .u8 (x.data % 256), .int .u32 0, .int .i64 s.opn] 68)).alloc (.cells #[.int .u8 (x.data % 256), .int .u32 0, .int .i64 s.opn] 68)).drew.drew by go_grown)
        exact ⟨rfl, (((Fr.set 10 _).trans (Fr.kept hkW (by rw [World.size_setCell]; exact hb))).trans (Fr.grow hb4 hg4 (((((k2.cs.alloc _).alloc _).drew).drew).alloc _) (by decide))).trans (Fr.set 13 _), fun _ => ⟨_, _, _, _, (k2.kept hkW).collsAdd hg4 hown4 hat4⟩⟩
    · obtain ⟨u0, b, off, cs, hy, rfl, hbb, ⟨rfl, _⟩, hcs⟩ := h.us.sl.at (show 0 < s.usages.length by omega)
      have hhd : s.usages.headD 0 = u0 := by
        cases hl : s.usages with
        | nil => rw [hl] at hu0; exact absurd rfl hu0
        | cons a l => rw [hl] at hy; injection hy
      rw [hhd]
      have q0 : w.cell? ⟨b, off, none⟩ = some (.int .u32 u0) := by simpa using hcs 0 _ rfl
      have hui : 0 < (s.usages.length : Int) := by omega
      have hbl : b < w.heap.size := hbb
      go_enter Try.func41, Try.ntmps41
      go_wp2_with fail
      go_region
      go_wp2_with fail
      go_region_law (first
        | (refine step_append_el (T := coT) rfl (.tmp 48) (.tmp 50) 38 rfl base 68 i1 _ 16 Try.underlying38 hi1 hz0 hz1 hz2 rfl (by decide) _ s.colls.length s.colls (by rfl) (((((k2.cs.alloc _).alloc _).drew).drew).alloc _) (w.heap.size + 1 + 1) _ _ ⟨x.data % 256, u0, s.opn⟩ (by rfl) (heap_at _ (by simp)) ⟨rfl, trivial⟩ (by simp [Value.oneCell']) (by unfold maxLen; omega) (by omega) (by simp; omega) ?_; intro g cap w4 hown4 hg4 hb4 hat4 hlt4; have hbx4 := (hb4.block R hRb).trans (heap_kept (show Kept (w.setCell ⟨R, 10, none⟩ (.int .i64 s.colls.length)) _ by go_grown) k2.box); have c6' := cell_heap hbx4 (o := 13) rfl; have f6' := frozen_heap hbx4 (o := 13); have hl4 := heap_lt hbx4))
      all_goals
        go_wp2_with fail
        go_ret
        have hkW := (show Kept (w.setCell ⟨R, 10, none⟩ (.int .i64 s.colls.length)) ((((w.setCell ⟨R, 10, none⟩ (.int .i64 s.colls.length)).alloc (.cells #[.int .u8 0, .int .u8 10, .int .i64 x.size, .int .u32 x.data] 29)).alloc (.cells #[.int .u8 (x.data % 256), .int .u32 u0, .int .i64 s.opn] 68)).alloc (.cells #[.int .u8 (x.data % 256), .int .u32 u0, .int .i64 s.opn] 68)).drew.drew by go_grown)
        exact ⟨rfl, (((Fr.set 10 _).trans (Fr.kept hkW (by rw [World.size_setCell]; exact hb))).trans (Fr.grow hb4 hg4 (((((k2.cs.alloc _).alloc _).drew).drew).alloc _) (by decide))).trans (Fr.set 13 _), fun _ => ⟨_, _, _, _, (k2.kept hkW).collsAdd hg4 hown4 hat4⟩⟩
end Go.Proofs.Ytegdigfcgeoboaa
