
/- What the definition's score, the interfaces and the rules of the plain data return. The numbers lie in their kinds. -/
import Derived.Test.YtgkhenplbljbbaaChecked
import Derived.Deep.RegionHeld3
import Derived.Deep.DrawnRows
import Derived.Deep.DeepCutAuto
import Derived.Deep.LoopGhost
import Derived.Outline
import Derived.Handy
import Derived.Test.YtgkhenplbljbbaaDa
set_option linter.unusedVariables false
set_option linter.unusedSimpArgs false
set_option linter.unusedSectionVars false
namespace Go.Proofs.Ytgkhenplbljbbaa
open Go.RowKit
attribute [local go_sem ↓] Go.wp_at_zero Go.wp_at_succ

set_option maxHeartbeats 1000000 in
theorem scoreL_any (u v p c s q d0 d1 d2 d3 d4 d5 d6 d7 d8 d9 d10 d11 i0 i1 i2 i3 i4 i5 i6 : Int) (w : World) (h0 : 0 ≤ u) (h1 : u < 256) :
    Calls Try.prog 13 #[.agg #[.int .u8 (u), .int .u16 (v), .int .u16 (p), .int .u8 (c), .int .u8 (s), .int .u8 (q)], .agg #[.int .u16 d0, .int .u8 d1, .int .u8 d2, .int .u8 d3, .int .u8 d4, .int .u16 d5, .int .u16 d6, .int .u16 d7, .int .u8 d8, .int .u8 d9, .int .u8 d10, .int .u8 d11], .agg #[.int .u8 i0, .int .u8 i1, .int .u8 i2, .int .u8 i3, .int .u8 i4, .int .u8 i5, .int .u8 i6]] w fun e w' => e = .returned (.int .i64 (scoreL u v p c s q d5 d6 i3 i4 i5)) ∧ Kept w w' := by
  go_enter Try.func13, Try.ntmps13
  go_upto_if 12 with (fail)
  refine wp_name (B := w.heap.size) (w0 := w) (by go_grown) (fun W hcW hfW hz hkW => ?_)
  simp only [World.size_alloc] at hz
  go_cut [7] (fun s7 wc => ∃ b0 : Bool, s7 = .bool b0 ∧ Hid (b0 = (true && gf u 16 v d5)) ∧ W = wc)
  case first =>
    all_goals (go_wp2 <;> (go_meet; exact ⟨_, rfl, by first | (rw [gf_no ‹_›]; simp [Hid]) | (rw [gf_no1 ‹_›]; simp [Hid]) | (rw [gf_yes ‹_›]; simp [Hid]) | (rw [gf_yes1 ‹_›]; simp [Hid]) | (simp [Hid]), rfl⟩))
  case rest =>
    obtain ⟨b0, rfl, H0, rfl⟩ := hcut
    go_upto_if 25 with (fail)
    go_cut [7] (fun s7 wc => ∃ b1 : Bool, s7 = .bool b1 ∧ Hid (b1 = (b0 && gf u 8 p d6)) ∧ W = wc)
    case first =>
      cases b0
      all_goals (go_wp2 <;> (go_meet; exact ⟨_, rfl, by first | (rw [gf_no ‹_›]; simp [Hid]) | (rw [gf_no1 ‹_›]; simp [Hid]) | (rw [gf_yes ‹_›]; simp [Hid]) | (rw [gf_yes1 ‹_›]; simp [Hid]) | (simp [Hid]), rfl⟩))
    case rest =>
      obtain ⟨b1, rfl, H1, rfl⟩ := hcut
      go_upto_if 38 with (fail)
      go_cut [7] (fun s7 wc => ∃ b2 : Bool, s7 = .bool b2 ∧ Hid (b2 = (b1 && gf u 4 c i3)) ∧ W = wc)
      case first =>
        cases b1
        all_goals (go_wp2 <;> (go_meet; exact ⟨_, rfl, by first | (rw [gf_no ‹_›]; simp [Hid]) | (rw [gf_no1 ‹_›]; simp [Hid]) | (rw [gf_yes ‹_›]; simp [Hid]) | (rw [gf_yes1 ‹_›]; simp [Hid]) | (simp [Hid]), rfl⟩))
      case rest =>
        obtain ⟨b2, rfl, H2, rfl⟩ := hcut
        go_upto_if 51 with (fail)
        go_cut [7] (fun s7 wc => ∃ b3 : Bool, s7 = .bool b3 ∧ Hid (b3 = (b2 && gf u 2 s i4)) ∧ W = wc)
        case first =>
          cases b2
          all_goals (go_wp2 <;> (go_meet; exact ⟨_, rfl, by first | (rw [gf_no ‹_›]; simp [Hid]) | (rw [gf_no1 ‹_›]; simp [Hid]) | (rw [gf_yes ‹_›]; simp [Hid]) | (rw [gf_yes1 ‹_›]; simp [Hid]) | (simp [Hid]), rfl⟩))
        case rest =>
          obtain ⟨b3, rfl, H3, rfl⟩ := hcut
          go_upto_if 63 with (fail)
          go_cut [7] (fun s7 wc => ∃ b4 : Bool, s7 = .bool b4 ∧ Hid (b4 = (b3 && gf u 1 q i5)) ∧ W = wc)
          case first =>
            cases b3
            all_goals (go_wp2 <;> (go_meet; exact ⟨_, rfl, by first | (rw [gf_no ‹_›]; simp [Hid]) | (rw [gf_no1 ‹_›]; simp [Hid]) | (rw [gf_yes ‹_›]; simp [Hid]) | (rw [gf_yes1 ‹_›]; simp [Hid]) | (simp [Hid]), rfl⟩))
          case rest =>
            obtain ⟨b4, rfl, H4, rfl⟩ := hcut
            have hfin : (gf u 16 v d5 && gf u 8 p d6 && gf u 4 c i3 && gf u 2 s i4 && gf u 1 q i5) = b4 := by rw [H4.out, H3.out, H2.out, H1.out, H0.out]; simp [Bool.and_assoc]
            have Hfin := hide hfin
            clear hfin
            cases b4
            all_goals (go_wp2; go_ret; exact ⟨ret_int (by unfold scoreL; rw [Hfin.out]; rfl), hkW⟩)

/-- the interface of a number -/
theorem face_any (n : Int) (w : World) (h0 : 0 ≤ n) (h1 : n < 256) :
    Calls Try.prog 12 #[.int .u8 n] w fun e w' => e = .returned (.agg #[.int .u8 0, .int .u8 0, .int .u8 0, .int .u8 (3 + n % 3), .int .u8 (n / 3 % 3), .int .u8 (n / 9 % 3), .int .u8 0]) ∧ Kept w w' := by
  go_enter Try.func12, Try.ntmps12
  go_wp2
  go_returns
  exact ⟨rfl, by go_grown⟩

set_option maxHeartbeats 4000000 in
/-- the rule of plain data -/
theorem rof_any (a b c d : Int) (w : World) (ha : 0 ≤ a ∧ a < 256) (hb : 0 ≤ b ∧ b < 256) (hc : 0 ≤ c ∧ c < 256) (hd : 0 ≤ d ∧ d < 256) :
    Calls Try.prog 18 #[.agg #[.int .u8 a, .int .u8 b, .int .u8 c, .int .u8 d]] w fun e w' =>
      e = .returned (.agg #[.int .u8 (rofR a b c d).use, .int .u16 (rofR a b c d).vendor, .int .u16 (rofR a b c d).product, .int .u8 (rofR a b c d).cls, .int .u8 (rofR a b c d).sub, .int .u8 (rofR a b c d).proto]) ∧ Kept w w' := by
  obtain ⟨ha0, ha1⟩ := ha
  obtain ⟨hb0, hb1⟩ := hb
  obtain ⟨hc0, hc1⟩ := hc
  obtain ⟨hd0, hd1⟩ := hd
  go_enter Try.func18, Try.ntmps18
  go_wp2
  all_goals (refine bodyPost_ret (v := .agg #[.int .u8 (rofR a b c d).use, .int .u16 (rofR a b c d).vendor, .int .u16 (rofR a b c d).product, .int .u8 (rofR a b c d).cls, .int .u8 (rofR a b c d).sub, .int .u8 (rofR a b c d).proto]) (by simp [results, Try.results18, go_sem, bitv, rofR, *]) rfl ⟨rfl, by go_grown⟩)
end Go.Proofs.Ytgkhenplbljbbaa
