
/- The small functions of the chapter. The numbers lie in their kinds. -/
import Derived.Test.YtfoeihbajichpaaDoorChecked
import Derived.Deep.RegionHeld3
import Derived.Deep.DrawnRows
import Derived.Deep.DeepCutAuto
import Derived.Deep.LoopGhost
import Derived.Outline
import Derived.Handy
import Derived.OwnWalk
import Derived.Test.YtfoeihbajichpaaDoorSb
set_option linter.unusedVariables false
set_option linter.unusedSimpArgs false
set_option linter.unusedSectionVars false
namespace Go.Proofs.YtfoeihbajichpaaDoor
open Go.RowKit Go.Lib
attribute [local go_sem ↓] Go.wp_at_zero Go.wp_at_succ

theorem and128_f : ∀ n : Fin 256, (bits BinOp.and IntKind.u8 ((n.val : Nat) : Int) 128 != 0) = decide ((128 : Int) ≤ ((n.val : Nat) : Int)) := by decide +kernel
theorem and31_f : ∀ n : Fin 256, bits BinOp.and IntKind.u8 ((n.val : Nat) : Int) 31 = ((n.val : Nat) : Int) % 32 := by decide +kernel
theorem and3_f : ∀ n : Fin 256, bits BinOp.and IntKind.u8 (((n.val : Nat) : Int) / 32) 3 = ((n.val : Nat) : Int) / 32 % 4 := by decide +kernel
theorem or_f : ∀ (k : Fin 4) (r : Fin 32), bits BinOp.or IntKind.u8 (((k.val : Nat) : Int) * 32) ((r.val : Nat) : Int) = 32 * ((k.val : Nat) : Int) + ((r.val : Nat) : Int) := by decide +kernel
theorem or128_f : ∀ (n : Fin 128), bits BinOp.or IntKind.u8 ((n.val : Nat) : Int) 128 = 128 + ((n.val : Nat) : Int) := by decide +kernel
def epB (i : Int) : Bool := decide (i < 16) || (decide (128 ≤ i) && decide (i < 144))
theorem ep_n : ∀ (a b : Fin 256), ((256 * a.val + b.val) &&& 65392 == 0) = (Nat.blt (256 * a.val + b.val) 16 || (Nat.ble 128 (256 * a.val + b.val) && Nat.blt (256 * a.val + b.val) 144)) := by decide +kernel
theorem ep_f (n : Nat) (h : n < 65536) : (bits BinOp.andNot IntKind.u16 (n : Int) 143 == 0) = epB (n : Int) := by
  have h1 : (BitVec.ofInt 16 (n : Int)).toNat = n := by
    rw [BitVec.ofInt_natCast, BitVec.toNat_ofNat]; exact Nat.mod_eq_of_lt (by omega)
  have h2 : (~~~(BitVec.ofInt 16 (143 : Int))).toNat = 65392 := by decide
  have hx : n &&& 65392 ≤ n := Nat.and_le_left
  have e : bits BinOp.andNot IntKind.u16 (n : Int) 143 = ((n &&& 65392 : Nat) : Int) := by
    show IntKind.u16.wrap ((BitVec.ofInt 16 (n : Int) &&& ~~~(BitVec.ofInt 16 (143 : Int))).toNat : Int) = _
    rw [BitVec.toNat_and, h1, h2]
    show ((n &&& 65392 : Nat) : Int) % 65536 = _
    omega
  have hf := ep_n ⟨n / 256, by omega⟩ ⟨n % 256, by omega⟩
  simp only [show 256 * (n / 256) + n % 256 = n by omega] at hf
  rw [e]
  unfold epB
  rw [Bool.eq_iff_iff] at hf ⊢
  simp only [beq_iff_eq, Bool.or_eq_true, Bool.and_eq_true, Nat.blt_eq, Nat.ble_eq, decide_eq_true_eq] at hf ⊢
  omega
theorem and128 {t : Int} (h0 : 0 ≤ t) (h1 : t < 256) : (bits BinOp.and IntKind.u8 t 128 != 0) = decide (128 ≤ t) := by
  obtain ⟨n, rfl⟩ := Int.eq_ofNat_of_zero_le h0; exact and128_f ⟨n, by omega⟩
theorem and31 {t : Int} (h0 : 0 ≤ t) (h1 : t < 256) : bits BinOp.and IntKind.u8 t 31 = t % 32 := by
  obtain ⟨n, rfl⟩ := Int.eq_ofNat_of_zero_le h0; exact and31_f ⟨n, by omega⟩
theorem and3 {t : Int} (h0 : 0 ≤ t) (h1 : t < 256) : bits BinOp.and IntKind.u8 (t / 32) 3 = t / 32 % 4 := by
  obtain ⟨n, rfl⟩ := Int.eq_ofNat_of_zero_le h0; exact and3_f ⟨n, by omega⟩
theorem or32 {k r : Int} (h0 : 0 ≤ k) (h1 : k ≤ 3) (g0 : 0 ≤ r) (g1 : r ≤ 31) : bits BinOp.or IntKind.u8 (k * 32) r = 32 * k + r := by
  obtain ⟨n, rfl⟩ := Int.eq_ofNat_of_zero_le h0
  obtain ⟨m, rfl⟩ := Int.eq_ofNat_of_zero_le g0
  exact or_f ⟨n, by omega⟩ ⟨m, by omega⟩
theorem or128 {n : Int} (h0 : 0 ≤ n) (h1 : n < 128) : bits BinOp.or IntKind.u8 n 128 = 128 + n := by
  obtain ⟨n, rfl⟩ := Int.eq_ofNat_of_zero_le h0; exact or128_f ⟨n, by omega⟩
theorem ep16 {i : Int} (h0 : 0 ≤ i) (h1 : i < 65536) : (bits BinOp.andNot IntKind.u16 i 143 == 0) = epB i := by
  obtain ⟨n, rfl⟩ := Int.eq_ofNat_of_zero_le h0
  exact ep_f n (by omega)

theorem in_any (t c v i l : Int) (w : World) (h0 : 0 ≤ t) (h1 : t < 256) :
    Calls Tryd.prog 12 #[.agg #[.int .u8 (t), .int .u8 (c), .int .u16 (v), .int .u16 (i), .int .u16 (l)]] w fun e w' => e = .returned (.bool (decide (128 ≤ t))) ∧ Kept w w' := by
  have H := Lib.hid (and128 h0 h1)
  go_enter Tryd.func12, Tryd.ntmps12
  go_wp2
  go_ret
  exact ⟨ret_bool H.out, by go_grown⟩
theorem kind_any (t c v i l : Int) (w : World) (h0 : 0 ≤ t) (h1 : t < 256) :
    Calls Tryd.prog 13 #[.agg #[.int .u8 (t), .int .u8 (c), .int .u16 (v), .int .u16 (i), .int .u16 (l)]] w fun e w' => e = .returned (.int .u8 (t / 32 % 4)) ∧ Kept w w' := by
  have H := Lib.hid (and3 h0 h1)
  go_enter Tryd.func13, Tryd.ntmps13
  go_wp2
  go_ret
  exact ⟨ret_int H.out, by go_grown⟩
theorem recv_any (t c v i l : Int) (w : World) (h0 : 0 ≤ t) (h1 : t < 256) :
    Calls Tryd.prog 14 #[.agg #[.int .u8 (t), .int .u8 (c), .int .u16 (v), .int .u16 (i), .int .u16 (l)]] w fun e w' => e = .returned (.int .u8 (t % 32)) ∧ Kept w w' := by
  go_enter Tryd.func14, Tryd.ntmps14
  go_wp2
  go_ret
  exact ⟨rfl, by go_grown⟩
theorem endp_any (i : Int) (w : World) (h0 : 0 ≤ i) (h1 : i < 65536) :
    Calls Tryd.prog 53 #[.int .u16 i] w fun e w' => e = .returned (.bool (epB i)) ∧ w = w' := by
  have H := Lib.hid (ep16 h0 h1)
  go_enter Tryd.func53, Tryd.ntmps53
  go_wp2
  go_ret
  exact ⟨ret_bool H.out, rfl⟩
theorem ret_tup {k l : IntKind} {a b c d : Int} (h : a = c) (h' : b = d) : Ending.returned (.tuple #[.int k a, .int l b]) = .returned (.tuple #[.int k c, .int l d]) := by rw [h, h']
def typeE (k r : Int) : Int := if 3 < k ∨ 31 < r then 1 else 0
theorem type_any (b : Bool) (k r : Int) (w : World) (h0 : 0 ≤ k) (h1 : 0 ≤ r) :
    Calls Tryd.prog 10 #[.bool b, .int .u8 k, .int .u8 r] w fun e w' => e = .returned (.tuple #[.int .u8 (typeI b k r), .int .i64 (typeE k r)]) ∧ w = w' := by
  by_cases hk : 3 < k
  · have e1 : typeI b k r = 0 := if_pos (.inl hk)
    have e2 : typeE k r = 1 := if_pos (.inl hk)
    rw [e1, e2]
    clear e1 e2
    go_enter Tryd.func10, Tryd.ntmps10
    go_wp2
    go_ret2
    exact ⟨rfl, rfl⟩
  · by_cases hr : 31 < r
    · have e1 : typeI b k r = 0 := if_pos (.inr hr)
      have e2 : typeE k r = 1 := if_pos (.inr hr)
      rw [e1, e2]
      clear e1 e2
      have hk' : k ≤ 3 := by omega
      go_enter Tryd.func10, Tryd.ntmps10
      go_wp2
      go_ret2
      exact ⟨rfl, rfl⟩
    · have hn : ¬ (3 < k ∨ 31 < r) := by omega
      have e1 : typeI b k r = (if b then 128 else 0) + 32 * k + r := if_neg hn
      have e2 : typeE k r = 0 := if_neg hn
      rw [e1, e2]
      clear e1 e2 hn
      have hk' : k ≤ 3 := by omega
      have hr' : r ≤ 31 := by omega
      have H1 := Lib.hid (or32 h0 hk' h1 hr')
      have H2 := Lib.hid (or128 (n := 32 * k + r) (by omega) (by omega))
      clear hk hr
      cases b
      · go_enter Tryd.func10, Tryd.ntmps10
        go_wp2
        go_ret2
        exact ⟨ret_tup (by rw [H1.out]) rfl, rfl⟩
      · go_enter Tryd.func10, Tryd.ntmps10
        go_wp2
        go_ret2
        exact ⟨ret_tup (by rw [H1.out, H2.out]; omega) rfl, rfl⟩
theorem addr_any (i : Int) (w : World) (h0 : 0 ≤ i) :
    Calls Tryd.prog 35 #[.int .u16 i] w fun e w' => e = .returned (.bool (epB i)) ∧ w = w' := by
  by_cases ha : i < 16
  · have e : epB i = true := by simp [epB, ha]
    rw [e]; clear e
    go_enter Tryd.func35, Tryd.ntmps35
    go_wp2
    go_ret
    exact ⟨rfl, rfl⟩
  · have ha' : 16 ≤ i := by omega
    by_cases hb : 128 ≤ i
    · by_cases hc : i < 144
      · have e : epB i = true := by simp [epB, hb, hc]
        rw [e]; clear e ha
        go_enter Tryd.func35, Tryd.ntmps35
        go_wp2
        go_ret
        exact ⟨ret_bool (by simp [hc]), rfl⟩
      · have e : epB i = false := by unfold epB; rw [decide_eq_false ha, decide_eq_false hc]; simp
        rw [e]; clear e ha
        have hc' : 144 ≤ i := by omega
        go_enter Tryd.func35, Tryd.ntmps35
        go_wp2
        go_ret
        exact ⟨ret_bool (by simp; omega), rfl⟩
    · have e : epB i = false := by unfold epB; rw [decide_eq_false ha, decide_eq_false hb]; simp
      rw [e]; clear e
      have hb' : i < 128 := by omega
      have Ha := Lib.hid ha
      clear ha
      go_enter Tryd.func35, Tryd.ntmps35
      go_wp2
      go_ret
      exact ⟨ret_bool (decide_eq_false (by have := Ha.out; omega)), rfl⟩
end Go.Proofs.YtfoeihbajichpaaDoor
