

/- The walk of BuffersGather. -/
import Derived.Test.YtdkinfglpnajmaaChecked
import Derived.Deep.RegionHeld3
import Derived.Deep.DrawnRows
import Derived.Deep.DeepCutAuto
import Derived.Deep.LoopGhost
import Derived.Outline
import Derived.Handy
import Derived.OwnWalk
import Derived.IntWalk
import Derived.Test.YtdkinfglpnajmaaGx
set_option linter.unusedVariables false
set_option linter.unusedSimpArgs false
set_option linter.unusedSectionVars false
namespace Go.Proofs.Ytdkinfglpnajmaa
open Go.RowKit
attribute [local go_sem ↓] Go.wp_at_zero Go.wp_at_succ

/-- the law's memory -/
def MEM : List UInt8 := (List.range 64).map fun i => UInt8.ofNat (100 + i)
theorem mem_C : memC 64 = u8C MEM := by rfl
theorem mem_len : MEM.length = 64 := by simp [MEM]
theorem mem_at {i : Nat} (h : i < 64) : ∃ x : UInt8, MEM[i]? = some x ∧ (x.toNat : Int) = 100 + i := by
  refine ⟨UInt8.ofNat (100 + i), by simp [MEM, h], ?_⟩
  simp [UInt8.toNat_ofNat']
  omega
theorem gath_at {l : List Pc} {i : Nat} {a : Int} (h : (places l)[i]? = some a) (h0 : 0 ≤ a) (h1 : a < 64) : ∃ x : UInt8, (gath MEM l)[i]? = some x ∧ (x.toNat : Int) = 100 + a := by
  obtain ⟨x, hx, e⟩ := mem_at (i := a.toNat) (by omega)
  refine ⟨x, ?_, by rw [e]; omega⟩
  unfold gath
  rw [List.getElem?_map, h]
  simp [List.getD, hx]
theorem gath_length (l : List Pc) : (gath MEM l).length = (places l).length := by simp [gath]
theorem ofL_places {l : List (UInt8 × UInt8)} {a : Int} (h : a ∈ places (ofL l)) : 0 ≤ a ∧ a < 64 := by
  obtain ⟨p, hp, ha⟩ := List.mem_flatMap.1 h
  have hb := ofL_bd p hp
  unfold pl at ha
  obtain ⟨k, hk, rfl⟩ := List.mem_map.1 ha
  have := List.mem_range.1 hk
  omega
theorem ofL_small (l : List (UInt8 × UInt8)) : ∀ p ∈ ofL l, 0 ≤ p.pos ∧ p.pos ≤ 64 ∧ 0 ≤ p.len := fun p hp => by
  have := ofL_bd p hp
  omega
theorem ofL_plen (l : List (UInt8 × UInt8)) : (places (ofL l)).length ≤ 1280 := by
  have h1 := places_len (ofL_ok l)
  have h2 := ofL_total l
  omega
/-- the law's list, as a slice -/
theorem x_of {A : Option Addr} {n c : Nat} {l : List (UInt8 × UInt8)} {W : World} (hl : Sl ppT W (low W.heap.size) A n l) (hnc : n ≤ c) (hc : c ≤ maxLen) : Calls Try.prog 10 #[.slice A n c] W fun e w' => ∃ A' c', e = .returned (.slice A' (ofL l).length c') ∧ Sl pcT w' (low w'.heap.size) A' (ofL l).length (ofL l) ∧ (ofL l).length ≤ c' ∧ c' ≤ maxLen ∧ Kept W w' := by
  refine (of_any A n c l W hl hnc hc).mono ?_
  rintro e w' ⟨v, m, rfl, h1, h2⟩
  obtain ⟨A', c', rfl, h3, h4⟩ := h1.isSlice
  have hm := h1.1
  subst hm
  exact ⟨A', c', rfl, h1.sl, h3, h4, h2⟩
theorem x_memory (W : World) : Calls Try.prog 13 #[] W fun e w' => ∃ g, e = .returned (.slice (some ⟨g, 0, none⟩) 64 64) ∧ W.heap.size ≤ g ∧ Bs w' g 0 MEM ∧ Kept W w' := by
  refine (memory_any W).mono ?_
  rintro e w' ⟨g, rfl, h0, h1, h2⟩
  rw [mem_C] at h1
  exact ⟨g, rfl, h0, heap_bs h1, h2⟩
set_option maxRecDepth 100000 in
set_option maxHeartbeats 2000000 in
theorem gather_law (A : Option Addr) (n c : Nat) (x : List (UInt8 × UInt8)) (w : World) (hl : Sl ppT w (low w.heap.size) A n x) (hnc : n ≤ c) (hc : c ≤ maxLen) :
    Calls Try.prog 3 #[.slice A n c] w fun e w' => e = .returned (.bool true) ∧ Kept w w' := by
  have hof := x_of hl hnc hc
  have hL20 := ofL_len x
  have hsm := Lib.hid (ofL_small x)
  have htt := Lib.hid (ofL_total x)
  have h64 := Lib.hid (show ∀ p ∈ ofL x, i64 p.pos ∧ i64 p.len from fun p hp => by have := ofL_bd p hp; unfold i64; omega)
  have hplc := Lib.hid (show ∀ a ∈ places (ofL x), 0 ≤ a ∧ a < 64 from fun a ha => ofL_places ha)
  have hpl0 := ofL_plen x
  have hk1 := Lib.hid (ofL_chk x (size := 64) (by omega))
  have hk2 := Lib.hid (ofL_chk x (size := 9223372036854775807) (by omega))
  have hpt := Lib.hid (places_len (ofL_ok x))
  have hgl := Lib.hid (gath_length (ofL x))
  generalize ofL x = l at *
  go_enter Try.func3, Try.ntmps3
  go_upto_region 4 with (first
    | (go_at_call 10; refine hof.mono ?_; rintro e w1 ⟨A1, c1, rfl, s1, _, _, k1⟩)
    | (go_at_call 11; refine (x_places s1 hsm.out (by have := htt.out; omega) (by omega) rfl).mono ?_; rintro e w2 ⟨A2, c2, rfl, s2, k2⟩)
    | (go_at_call 13; refine (x_memory _).mono ?_; rintro e w3 ⟨g3, rfl, _, bs3, k3⟩)
    | (go_at_call 12; refine (gather_ok g3 MEM A1 64 64 l.length c1 l _ ((s1.kept k2).kept k3) bs3 mem_len (by omega) (Nat.le_refl _) (by unfold maxLen; omega) hk1.out).mono ?_; rintro e w4 ⟨g4, rfl, _, bs4, k4⟩))
  have k14 : Kept w1 w4 := (k2.trans' k3).trans' k4
  have k24 : Kept w2 w4 := k3.trans' k4
  generalize hK : (gath MEM l).length = K at *
  generalize hP : (places l).length = Pn at *
  have hKP : K = Pn := by have := hgl.out; omega
  subst hKP
  replace hK := Lib.hid hK
  replace hP := Lib.hid hP
  generalize hm : l.length = m at *
  replace hm := Lib.hid hm
  have hle : ∀ w', Kept w1 w' → Calls Try.prog 14 #[.slice A1 m c1] w' fun e w2 => e = .returned (.int .i64 (K : Int)) ∧ Kept w' w2 := fun w' hk => by
    have h := len_any A1 m c1 l w' (s1.kept hk) h64.out (by omega)
    rw [hk2.out, if_pos rfl, ← hpt.out] at h
    exact h
  have hch : ∀ w', Kept w1 w' → Calls Try.prog 15 #[.slice A1 m c1, .int .i64 64] w' fun e w2 => e = .returned (.int .i64 0) ∧ Kept w' w2 := fun w' hk => by
    have h := check_any A1 m c1 l 64 w' (s1.kept hk) h64.out (by unfold i64; omega) (by omega)
    rw [hk1.out] at h
    exact h
  go_wp2_with (first
    | (go_at_call 14; refine (hle _ k14).mono ?_; rintro e w5 ⟨rfl, k5⟩)
    | (go_at_call 15; refine (hch _ (k14.trans' k5)).mono ?_; rintro e w6 ⟨rfl, k6⟩))
  have k46 : Kept w4 w6 := k5.trans' k6
  have kw6 : Kept w w6 := k1.trans' (k14.trans' k46)
  have hs6 := s2.kept (k24.trans' k46)
  have hb6 := bs4.kept k46
  clear hle hch hof s1 s2 bs3 bs4 hsm htt h64 hk1 hk2 hpt hgl
  go_loopg [7] K (fun g s7 wr => ∃ i : Nat, i + g = K ∧ s7 = .int .i64 (i : Int) ∧ Kept w6 wr)
  case atStart => exact ⟨0, by omega, by rfl, Below.refl _ _⟩
  case round =>
    obtain ⟨i, hi, rfl, hkw⟩ := hrel
    by_cases hlt : i < K
    · obtain ⟨a, b, off, hx, rfl, hbb, hbw, c0⟩ := in_at hs6 hkw hlt
      obtain ⟨ha0, ha1⟩ := hplc.out a (List.mem_of_getElem? hx)
      obtain ⟨y, hy, hya⟩ := gath_at hx ha0 ha1
      have hbr := hb6.kept hkw
      have c1' := hbr.2 i y hy
      rw [Nat.zero_add, hya] at c1'
      have hbl := hbr.1
      have hi' : (i : Int) < (K : Int) := by omega
      have hw1 : IntKind.i64.wrap (100 + a) = 100 + a := IntWalk.i64_in _ ⟨by omega, by omega⟩
      have hw2 : IntKind.u8.wrap (100 + a) = 100 + a := IntWalk.u8_in _ (by omega)
      clear hx hy hbr
      go_wp2_with fail
      go_region
      go_wp2_with fail
      go_roundg (gk - 1)
      case measure => omega
      case rel => exact ⟨i + 1, by omega, by go_num, hkw.drew⟩
    · have hi' : (K : Int) ≤ (i : Int) := by omega
      go_wp2_with (go_at_call 16; refine (lives_any _).mono ?_; rintro e w7 ⟨rfl, k7⟩)
      go_ret
      exact ⟨rfl, kw6.trans' (hkw.trans' k7)⟩
end Go.Proofs.Ytdkinfglpnajmaa
