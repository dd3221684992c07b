
/- The law's own functions of an inquiry: right, trimmed. -/
import Derived.Test.YtfojemocffelhaaDoorChecked
import Derived.Deep.RegionHeld3
import Derived.Deep.DrawnRows
import Derived.Deep.DeepCutAuto
import Derived.Deep.LoopGhost
import Derived.Outline
import Derived.Handy
import Derived.OwnWalk
import Derived.Test.YtfojemocffelhaaDoorSo
import Derived.Test.YtfojemocffelhaaDoorIa
set_option linter.unusedVariables false
set_option linter.unusedSimpArgs false
set_option linter.unusedSectionVars false
namespace Go.Proofs.YtfojemocffelhaaDoor
open Go.RowKit
attribute [local go_sem ↓] Go.wp_at_zero Go.wp_at_succ

theorem take_pr {s : ByteArray} {k : Nat} (hk : k < s.size) : prL (s.data.toList.take (k + 1)) = (prL (s.data.toList.take k) && okb s[k]) := by
  rw [List.take_succ_eq_append_getElem (by simpa using hk)]
  unfold prL
  rw [List.all_append]
  simp
  rfl
theorem bad_pr {s : ByteArray} {k : Nat} (hk : k < s.size) (h : okb s[k] = false) : rightL s.data.toList = false := by
  have h1 : prL s.data.toList = false := by
    unfold prL
    rw [List.all_eq_false]
    exact ⟨s[k], List.mem_of_getElem? (byte_at hk), by simp [h]⟩
  simp [rightL, h1]
set_option maxRecDepth 100000 in
set_option maxHeartbeats 1000000 in
theorem right_any (s : ByteArray) (w : World) (hs : s.size ≤ 30) : Calls Tryd.prog 22 #[.string s] w fun e w' => e = .returned (.bool (rightL s.data.toList)) ∧ w = w' := by
  go_enter Tryd.func22, Tryd.ntmps22
  go_wp2_with fail
  go_loop [3] (fun i => ∃ k : Nat, k ≤ s.size ∧ i = .int .i64 k ∧ prL (s.data.toList.take k) = true) (fun i => s.size - (intOf i).toNat)
  case atStart => exact ⟨0, by omega, rfl, rfl⟩
  case round =>
    obtain ⟨k, hk, rfl, hpr⟩ := hrel
    by_cases hlt : k < s.size
    · replace hpr := Lib.hid hpr
      have hlt' : (k : Int) < (s.size : Int) := by omega
      by_cases hlo : (s[k].toNat : Int) < 32
      · have hb := bad_pr hlt (by simp only [okb, Bool.and_eq_false_iff, decide_eq_false_iff_not]; omega)
        replace hb := Lib.hid hb
        go_wp2_with fail
        go_ret
        exact ⟨by rw [hb.out] <;> rfl, rfl⟩
      · have hlo' : 32 ≤ (s[k].toNat : Int) := by omega
        by_cases hhi : 126 < (s[k].toNat : Int)
        · have hb := bad_pr hlt (by simp only [okb, Bool.and_eq_false_iff, decide_eq_false_iff_not]; omega)
          replace hb := Lib.hid hb
          go_wp2_with fail
          go_ret
          exact ⟨by rw [hb.out] <;> rfl, rfl⟩
        · have hok : okb s[k] = true := by simp only [okb, Bool.and_eq_true, decide_eq_true_eq]; omega
          replace hok := Lib.hid hok
          have hhi' : (s[k].toNat : Int) ≤ 126 := by omega
          go_wp2_with fail
          go_round
          case rel => exact ⟨k + 1, by omega, by go_num, by rw [take_pr hlt, hpr.out, hok.out]; rfl⟩
          case measure => simp [intOf]; omega
    · have hks : k = s.size := by omega
      subst hks
      rw [List.take_of_length_le (by simp)] at hpr
      replace hpr := Lib.hid hpr
      by_cases h0 : s.size = 0
      · have hr : rightL s.data.toList = true := by
          have e : s.data.toList = [] := List.eq_nil_of_length_eq_zero (by simpa using h0)
          rw [e]; rfl
        replace hr := Lib.hid hr
        have h0' : (s.size : Int) = 0 := by omega
        go_wp2_with fail
        go_ret
        exact ⟨by rw [hr.out] <;> rfl, rfl⟩
      · have hn : s.size - 1 < s.size := by omega
        have hl : s.data.toList = s.data.toList.take (s.size - 1) ++ [s[s.size - 1]] := by
          have h1 := List.take_succ_eq_append_getElem (l := s.data.toList) (i := s.size - 1) (by simpa using hn)
          rw [List.take_of_length_le (by simp; omega)] at h1
          exact h1
        have hr : rightL s.data.toList = !(s[s.size - 1] == 32) := by
          unfold rightL
          rw [hpr.out]
          conv => lhs; rw [hl]
          rw [suffix_snoc]
          rfl
        replace hr := Lib.hid hr
        replace hl := Lib.hid hl
        have h0' : 0 < (s.size : Int) := by omega
        have h0e : ((s.size : Int) == 0) = false := by simpa using h0
        by_cases hz : (s[s.size - 1].toNat : Int) = 32
        · have he : s[s.size - 1] = 32 := UInt8.toNat_inj.1 (by show _ = 32; omega)
          replace he := Lib.hid he
          go_wp2_with fail
          go_ret
          exact ⟨by rw [hr.out, he.out] <;> rfl, rfl⟩
        · have he : (s[s.size - 1] == 32) = false := by
            rw [beq_eq_false_iff_ne]
            intro h
            exact hz (by rw [h]; rfl)
          replace he := Lib.hid he
          have hz2 : ((s[s.size - 1].toNat : Int) != 32) = true := by simpa using hz
          go_wp2_with fail
          go_ret
          exact ⟨by rw [hr.out, he.out] <;> rfl, rfl⟩
set_option maxRecDepth 100000 in
set_option maxHeartbeats 1000000 in
theorem trimmed_any (b off n c : Nat) (bs : List UInt8) (w : World) (hl : bs.length = n) (hn : n ≤ 60) (hnc : n ≤ c) (hB : Bs w b off bs) :
    Calls Tryd.prog 24 #[.slice (some ⟨b, off, none⟩) n c] w fun e w' => e = .returned (.string ⟨(Lib.trimRightB bs 32).toArray⟩) ∧ w = w' := by
  have hbw := hB.1
  replace hl := Lib.hid hl
  go_enter Tryd.func24, Tryd.ntmps24
  go_wp2_with fail
  go_loop [3] (fun i => ∃ k : Nat, k ≤ n ∧ i = .int .i64 k ∧ ∀ (j : Nat) b, k ≤ j → bs[j]? = some b → b = 32) (fun i => (intOf i).toNat)
  case atStart => exact ⟨n, by omega, rfl, fun j b hj hb => by have := (List.getElem?_eq_some_iff.1 hb).1; have := hl.out; omega⟩
  case round =>
    obtain ⟨k, hk, rfl, hall⟩ := hrel
    replace hall := Lib.hid hall
    by_cases h0 : k = 0
    · subst h0
      have he : Lib.trimRightB bs 32 = bs.take 0 := Lib.trimRightB_take bs 32 0 (by omega) hall.out (fun b h => by omega)
      replace he := Lib.hid he
      have hcv := (hB.take 0).conv 0 c (by simp)
      have hcv' := Lib.hid he
      go_wp2_with fail
      go_ret
      exact ⟨by rw [he.out]; try rfl, rfl⟩
    · obtain ⟨x, hx⟩ : ∃ x, bs[k - 1]? = some x := ⟨_, List.getElem?_eq_getElem (by have := hl.out; omega)⟩
      have hcell := hB.2 (k - 1) x hx
      have e1 : (k : Int) - 1 = ((k - 1 : Nat) : Int) := by omega
      replace hx := Lib.hid hx
      obtain ⟨j, rfl⟩ : ∃ j, k = j + 1 := ⟨k - 1, by omega⟩
      rw [Nat.add_sub_cancel] at hcell hx
      clear e1 h0
      by_cases hz : (x.toNat : Int) = 32
      · have he : x = 32 := UInt8.toNat_inj.1 (by show _ = 32; omega)
        replace he := Lib.hid he
        rw [hz] at hcell
        clear hz
        go_wp2_with fail
        go_round
        case rel => exact ⟨j, by omega, by go_num, fun i b hi hb => by
          by_cases hij : i = j
          · rw [hij, hx.out] at hb
            injection hb with hb
            rw [← hb, he.out]
          · exact hall.out i b (by omega) hb⟩
        case measure => simp [intOf] <;> omega
      · have hne : x ≠ 32 := fun h => hz (by rw [h]; decide)
        have he : Lib.trimRightB bs 32 = bs.take (j + 1) := Lib.trimRightB_take bs 32 (j + 1) (by have := hl.out; omega) hall.out (fun b _ h => by
          rw [Nat.add_sub_cancel, hx.out] at h
          injection h with h
          rw [← h]; exact hne)
        replace he := Lib.hid he
        replace hne := Lib.hid hne
        have hcv := (hB.take (j + 1)).conv (j + 1) c (by have := hl.out; simp; omega)
        go_wp2_with fail
        go_ret
        exact ⟨by rw [he.out]; try rfl, rfl⟩
end Go.Proofs.YtfojemocffelhaaDoor
