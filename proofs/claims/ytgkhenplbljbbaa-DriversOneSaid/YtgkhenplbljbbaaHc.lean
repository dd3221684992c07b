
/- Bound. The registry reads as data. -/
import Derived.Test.YtgkhenplbljbbaaChecked
import Derived.Deep.RegionHeld3
import Derived.Deep.DrawnRows
import Derived.Deep.DeepCutAuto
import Derived.Deep.LoopGhost
import Derived.Outline
import Derived.Handy
import Derived.OwnWalk
import Derived.Test.YtgkhenplbljbbaaHb
import Derived.Test.YtgkhenplbljbbaaEi
set_option linter.unusedVariables false
set_option linter.unusedSimpArgs false
set_option linter.unusedSectionVars false
namespace Go.Proofs.Ytgkhenplbljbbaa
open Go.RowKit Go.Maps Go.WideShapes
attribute [local go_sem ↓] Go.wp_at_zero Go.wp_at_succ

theorem field63 (q : Int) (A : Option Addr) (n c : Nat) (w : World) : (Instr.field 63 (.agg #[.int .u8 q, .slice A n c]) 1).run Try.prog w = .ok (.slice A n c) w := by kernel_rfl
set_option maxRecDepth 100000 in
set_option maxHeartbeats 4000000 in
theorem bound_any {w : World} {X : Nat → Prop} {G m nl : Nat} {l : List Drv} {K : Nat} {S : St} (hR : Reg w X G m nl l K S) (hnl : nl ≤ maxLen) (a : Nat) (ha : a < 256) (hg : GoodC l (S a)) :
    Calls Try.prog 26 #[.pointer (some ⟨G, 0, none⟩), .int .u8 (a : Int)] w fun e w' => ∃ A, e = .returned (.slice A (bindS l a (S a)).length (bindS l a (S a)).length) ∧ Sl bdT w' (fun g => w.heap.size ≤ g ∧ g < w'.heap.size) A (bindS l a (S a)).length (bindS l a (S a)) ∧ Kept w w' := by
  obtain ⟨i2, hi2, hz20, hz21, hz22⟩ := info_parts info82
  obtain ⟨bd, f, hG, hD, hM, hL⟩ := hR
  have hLa := hL a ha
  clear hL
  have hF := field63
  have c0 := cell_heap hG (o := 0) rfl
  have c1 := cell_heap hG (o := 1) rfl
  have hGl := heap_lt hG
  cases hs : S a with
  | none =>
    rw [hs] at hLa
    have hf : f (.int .u8 (a : Int)) = none := hLa
    go_enter Try.func26, Try.ntmps26
    go_wp2_with (first
      | (go_at_call 39; refine (some_any G m _ _ hG).mono ?_; rintro e w1 ⟨rfl, rfl⟩)
      | (at_lookup; refine wpList_look_any _ rfl _ _ 87 false rfl 5 63 (int_keyed Try.underlying5) Try.underlying87 (zero63 _) m K f (by rfl) hM _ _ rfl (key8 ha) ?_; rw [hf]; simp only [Bool.false_eq_true, if_false, Option.getD_none]))
    go_loopg [5, 18] 0 (fun g s5 s18 wr => s5 = .slice none 0 0 ∧ s18 = .int .i64 0 ∧ w = wr)
    case atStart => exact ⟨rfl, rfl, rfl⟩
    case round =>
      obtain ⟨rfl, rfl, rfl⟩ := hrel
      go_wp2_with (go_at_call 42; refine (clip42 none 0 0 (Nat.le_refl _) (by decide) _).mono ?_; rintro e w1 ⟨rfl, rfl⟩)
      go_ret
      exact ⟨none, rfl, Sl.nil _ _ _ _, Below.refl _ _⟩
  | some c =>
    obtain ⟨q, L⟩ := c
    rw [hs] at hLa hg
    obtain ⟨A, hf, hLs⟩ := hLa
    obtain ⟨hg5, hgx⟩ := hg _ rfl
    dsimp only at hg5 hgx
    have hbs : bindS l a (some (q, L)) = bindTo l a L L.length := rfl
    rw [hbs]
    clear hbs
    have hDl := inX_low hD
    have hLl := inX_low hLs
    have hll := hide hD.1
    clear hD hLs
    go_enter Try.func26, Try.ntmps26
    go_wp2_with (first
      | (go_at_call 39; refine (some_any G m _ _ hG).mono ?_; rintro e w1 ⟨rfl, rfl⟩)
      | (at_lookup; refine wpList_look_any _ rfl _ _ 87 false rfl 5 63 (int_keyed Try.underlying5) Try.underlying87 (zero63 _) m K f (by rfl) hM _ _ rfl (key8 ha) ?_; rw [hf]; simp only [Bool.false_eq_true, if_false, Option.getD_some]))
    go_loopg [5, 18] L.length (fun g s5 s18 wr => ∃ k : Nat, k + g = L.length ∧ s18 = .int .i64 k ∧ Own bdT 82 w.heap.size wr s5 (bindTo l a L k).length (bindTo l a L k) ∧ Kept w wr)
    case atStart => exact ⟨0, by omega, rfl, Own.nil _ _ _ _, Below.refl _ _⟩
    case round =>
      obtain ⟨k, hk, rfl, hown, hkw⟩ := hrel
      obtain ⟨hcr, hfr⟩ := bcell hkw
      have hGr := Nat.lt_of_lt_of_le hGl hkw.size
      have Hk := hide hk
      clear hk
      by_cases hlt : k < L.length
      · obtain ⟨x, b, off, hx, rfl, hb, hbr, e1⟩ := i64_at hLl (Below.refl _ w) hlt
        have hlt' : (k : Int) < (L.length : Int) := by omega
        have hk0 : (0 : Int) ≤ (k : Int) := by omega
        by_cases hx0 : 0 ≤ x
        · have Hbt := hide (bindTo_yes (l := l) (n := (a : Int)) hx hx0)
          have hxl := hgx x (List.mem_of_getElem? hx)
          rw [hll.out] at hxl
          clear hx
          obtain ⟨xn, rfl⟩ := Int.eq_ofNat_of_zero_le hx0
          obtain ⟨d, b2, off2, A2, c2, hd, hA2, hb2, hb2r, _, _, hns, hd0, hd1, _⟩ := drv_at hDl (Below.refl _ w) (show xn < nl by omega)
          injection hA2 with hA2
          injection hA2 with e2 e3
          subst e2 e3
          have Hnm := hide (nameAt_get hd)
          clear hd hd1
          rw [Nat.zero_add] at hd0
          have hbl := bindTo_len l (a : Int) L k
          have Hown := hide hown
          clear hown
          go_wp2_with (at_builtin; refine wpList_append_el (T := bdT) rfl (.tmp 25) (.tmp 37) 73 rfl w.heap.size 82 i2 _ 32 Try.underlying73 hi2 hz20 hz21 hz22 rfl (by decide) _ _ _ (by rfl) (Hown.out.alloc _) _ _ _ ⟨(a : Int), (k : Int), d.name⟩ (by rfl) (heap_at _ rfl) ⟨rfl, hns⟩ (by simp [Value.oneCell']) (by unfold maxLen; omega) (by omega) (by have := hkw.size; simp; omega) ?_; intro g cap w4 hown4 hg4 hb4 hat4 hlt4)
          go_roundg (gk - 1)
          case measure => have := Hk.out; omega
          case rel => exact ⟨k + 1, by have := Hk.out; omega, by go_num, by rw [Hbt.out, Hnm.out, List.length_append]; exact hown4, Below.trans (Below.alloc hkw hkw.size _) hb4⟩
        · have Hbt := hide (bindTo_no (l := l) (n := (a : Int)) hx hx0)
          clear hx
          go_wp2_with fail
          go_roundg (gk - 1)
          case measure => have := Hk.out; omega
          case rel => exact ⟨k + 1, by have := Hk.out; omega, by go_num, by rw [Hbt.out]; exact hown, hkw⟩
      · have hkn : k = L.length := by have := Hk.out; omega
        have hlt' : (L.length : Int) ≤ (k : Int) := by omega
        rw [hkn] at hown
        clear hkn
        have hbl := bindTo_len l (a : Int) L L.length
        obtain ⟨A5, c5, rfl, h51, h52⟩ := hown.isSlice
        have HS := hide (own_bind_new hown)
        clear hown
        go_wp2_with (go_at_call 42; refine (clip42 A5 _ c5 h51 h52 _).mono ?_; rintro e w1 ⟨rfl, rfl⟩)
        go_ret
        exact ⟨A5, rfl, HS.out, hkw⟩
end Go.Proofs.Ytgkhenplbljbbaa
