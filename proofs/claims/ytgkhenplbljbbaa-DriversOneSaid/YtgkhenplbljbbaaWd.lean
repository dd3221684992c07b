
/- What the definition's match returns: the greatest score that any rule has, and the first driver that has it; -1 and -1 if there is none. The list reads as drivers. -/
import Derived.Test.YtgkhenplbljbbaaChecked
import Derived.Deep.RegionHeld3
import Derived.Deep.DrawnRows
import Derived.Deep.DeepCutAuto
import Derived.Deep.LoopGhost
import Derived.Outline
import Derived.Handy
import Derived.Test.YtgkhenplbljbbaaWb
set_option linter.unusedVariables false
set_option linter.unusedSimpArgs false
set_option linter.unusedSectionVars false
namespace Go.Proofs.Ytgkhenplbljbbaa
open Go.RowKit
attribute [local go_sem ↓] Go.wp_at_zero Go.wp_at_succ

/-- no rule of a list has this score -/
def noneOf (sc : Rule → Int) (n : Int) (rs : List Rule) (j : Nat) : Prop := ∀ j' r, j' < j → rs[j']? = some r → sc r ≠ n
def noneIn (sc : Rule → Int) (n : Int) (l : List Drv) (k : Nat) : Prop := ∀ k' d, k' < k → l[k']? = some d → noneOf sc n d.rules d.rules.length
def noneOver (sc : Rule → Int) (n : Int) (l : List Drv) : Prop := ∀ m : Int, n < m → m ≤ 255 → noneIn sc m l l.length
/-- the answer of match, by definition -/
def isBest (sc : Rule → Int) (l : List Drv) (a b : Int) : Prop :=
  (a = -1 ∧ b = -1 ∧ noneOver sc (-1) l) ∨
  ∃ (k j : Nat) (d : Drv) (r : Rule), a = k ∧ l[k]? = some d ∧ d.rules[j]? = some r ∧ sc r = b ∧ 0 ≤ b ∧ b ≤ 255 ∧ noneIn sc b l k ∧ noneOver sc b l
def Best (sc : Rule → Int) (l : List Drv) (w : World) (e : Ending) (w' : World) : Prop := ∃ a b : Int, e = .returned (.tuple #[.int .i64 a, .int .i64 b]) ∧ isBest sc l a b ∧ Kept w w'

theorem noneOf_succ {sc : Rule → Int} {n : Int} {rs : List Rule} {j : Nat} {r : Rule} (h : noneOf sc n rs j) (hr : rs[j]? = some r) (hne : sc r ≠ n) : noneOf sc n rs (j + 1) := by
  intro j' r' hj hr'
  by_cases e : j' = j
  · subst e; rw [hr] at hr'; injection hr' with e; rw [← e]; exact hne
  · exact h j' r' (by omega) hr'
theorem noneIn_succ {sc : Rule → Int} {n : Int} {l : List Drv} {k : Nat} {d : Drv} (h : noneIn sc n l k) (hd : l[k]? = some d) (hn : noneOf sc n d.rules d.rules.length) : noneIn sc n l (k + 1) := by
  intro k' d' hk hd'
  by_cases e : k' = k
  · subst e; rw [hd] at hd'; injection hd' with e; rw [← e]; exact hn
  · exact h k' d' (by omega) hd'
theorem noneOver_pred {sc : Rule → Int} {n : Int} {l : List Drv} (h : noneOver sc n l) (hn : noneIn sc n l l.length) : noneOver sc (n - 1) l := by
  intro m h1 h2
  by_cases e : m = n
  · rw [e]; exact hn
  · exact h m (by omega) h2

set_option maxHeartbeats 2000000 in
theorem matchL_any (A : Option Addr) (n c : Nat) (l : List Drv) (d0 d1 d2 d3 d4 d5 d6 d7 d8 d9 d10 d11 i0 i1 i2 i3 i4 i5 i6 : Int) (w : World) (hn : n ≤ maxLen) (hl : Sl drvT w (low w.heap.size) A n l) :
    Calls Try.prog 15 #[.slice A n c, .agg #[.int .u16 d0, .int .u8 d1, .int .u8 d2, .int .u8 d3, .int .u8 d4, .int .u16 d5, .int .u16 d6, .int .u16 d7, .int .u8 d8, .int .u8 d9, .int .u8 d10, .int .u8 d11], .agg #[.int .u8 i0, .int .u8 i1, .int .u8 i2, .int .u8 i3, .int .u8 i4, .int .u8 i5, .int .u8 i6]] w (Best (fun r => scoreL r.use r.vendor r.product r.cls r.sub r.proto d5 d6 i3 i4 i5) l w) := by
  unfold maxLen at hn
  have hll := hide hl.1
  go_enter Try.func15, Try.ntmps15
  go_wp2_with fail
  refine wp_name (B := w.heap.size) (w0 := w) (by go_grown) (fun W hcW hfW hz hkW => ?_)
  simp only [World.size_alloc] at hz
  generalize hsc : (fun r : Rule => scoreL r.use r.vendor r.product r.cls r.sub r.proto d5 d6 i3 i4 i5) = sc
  have Hsc := hide hsc
  clear hsc
  go_loopg [8] 256 (fun g s8 wr => s8 = .int .i64 ((g : Int) - 1) ∧ g ≤ 256 ∧ noneOver sc ((g : Int) - 1) l ∧ Below W.heap.size W wr)
  case atStart => exact ⟨rfl, Nat.le_refl _, fun m h1 h2 => by omega, Below.refl _ _⟩
  case round =>
    obtain ⟨rfl, hg, hov, hbel⟩ := hrel
    have Hov := hide hov
    clear hov
    obtain ⟨gg, rfl⟩ : ∃ g : Nat, g = gk := ⟨_, rfl⟩
    by_cases hg0 : gg = 0
    · subst hg0
      go_wp2
      go_ret2
      exact ⟨-1, -1, rfl, .inl ⟨rfl, rfl, by rw [Hsc.out]; exact Hov.out⟩, hkW.trans (hbel.mono hkW.size)⟩
    · obtain ⟨m, rfl⟩ : ∃ m, gg = m + 1 := ⟨gg - 1, by omega⟩
      have e0 : ((m + 1 : Nat) : Int) - 1 = m := by omega
      rw [e0] at Hov ⊢
      clear e0 hg0
      have hm0 : (0 : Int) ≤ (m : Int) := by omega
      go_wp2_with fail
      obtain ⟨wo, rfl⟩ : ∃ wo : World, wo = wr := ⟨_, rfl⟩
      go_loopg [9] n (fun g s9 wr => ∃ k : Nat, k + g = n ∧ s9 = .int .i64 k ∧ noneIn sc m l k ∧ Below W.heap.size W wr)
      case atStart => exact ⟨0, by omega, rfl, fun k' d h => by omega, hbel⟩
      case round =>
        obtain ⟨k, hk, rfl, hin, hbe2⟩ := hrel
        have Hk := hide hk
        have Hin := hide hin
        clear hk hin
        obtain ⟨g2, rfl⟩ : ∃ g : Nat, g = gk := ⟨_, rfl⟩
        by_cases hlt : k < n
        · have hkr : Kept w wr := hkW.trans (hbe2.mono hkW.size)
          have hlt' : (k : Int) < (n : Int) := by omega
          have hk0 : (0 : Int) ≤ (k : Int) := by omega
          obtain ⟨w2, rfl⟩ : ∃ wo : World, wo = wr := ⟨_, rfl⟩
          obtain ⟨d, b, off, A', c', hd, rfl, hbw, _, hc1, hc2, _, hd0, hd1, hrs⟩ := drv_at hl (Below.refl _ _) hlt
          unfold maxLen at hc2
          have Hd := hide hd
          clear hd
          go_wp2_with fail
          go_loopg [10] d.rules.length (fun g s10 wr => ∃ j : Nat, j + g = d.rules.length ∧ s10 = .int .i64 j ∧ noneOf sc m d.rules j ∧ Below W.heap.size W wr)
          case atStart => exact ⟨0, by omega, rfl, fun j' r h => by omega, hbe2⟩
          case round =>
            obtain ⟨j, hj, rfl, hof, hbe3⟩ := hrel
            have Hj := hide hj
            have Hof := hide hof
            clear hj hof hbel hbe2
            have hwr := hbe3.size
            have hq0 : w.heap.size < wr.heap.size := by omega
            have hq1 : w.heap.size + 1 < wr.heap.size := by omega
            have hkr3 : Kept w wr := hkW.trans (hbe3.mono hkW.size)
            obtain ⟨hci, hfi⟩ := bcell hbe3
            have hbb : b < wr.heap.size := Nat.lt_of_lt_of_le hbw hkr3.size
            have hc01 := (hkr3.cell (p := ⟨b, off + k * 2 + 1, none⟩) hbw).trans hd1
            by_cases hjt : j < d.rules.length
            · obtain ⟨r, b', off', hr, rfl, _, hbw', ⟨hok0, hok1⟩, e0, e1, e2, e3, e4, e5⟩ := rule_at hrs hkr3 hjt
              have Hr := hide hr
              clear hr
              have hjt' : (j : Int) < (d.rules.length : Int) := by omega
              have Hscr : Hid (scoreL r.use r.vendor r.product r.cls r.sub r.proto d5 d6 i3 i4 i5 = sc r) := by rw [← Hsc.out]; exact rfl
              have hj0 : (0 : Int) ≤ (j : Int) := by omega
              go_wp2_with fail
              go_region_held3 (fun w' => (∀ b o, b < wr.heap.size → w'.cell? ⟨b, o, none⟩ = wr.cell? ⟨b, o, none⟩) ∧ Below wr.heap.size wr w') (first | assumption | exact since_start | exact since_keep (by assumption) (Nat.le_refl _) hk) (first | (go_at_call 13; refine (scoreL_any _ _ _ _ _ _ _ _ _ _ _ _ _ _ _ _ _ _ _ _ _ _ _ _ _ _ hok0 hok1).mono ?_; rintro e w1 ⟨rfl, hk⟩))
              go_wp2
              · have he : scoreL r.use r.vendor r.product r.cls r.sub r.proto d5 d6 i3 i4 i5 = (m : Int) := by simpa using ‹(scoreL r.use r.vendor r.product r.cls r.sub r.proto d5 d6 i3 i4 i5 == (m : Int)) = true›
                go_ret2
                exact ⟨k, m, rfl, .inr ⟨k, j, d, r, rfl, Hd.out, Hr.out, he, by omega, by omega, by rw [Hsc.out]; exact Hin.out, by rw [Hsc.out]; exact Hov.out⟩, since_kept hkr3 (by assumption) (Nat.le_refl _)⟩
              · have hne : sc r ≠ (m : Int) := by rw [← Hscr.out]; simpa using ‹(scoreL r.use r.vendor r.product r.cls r.sub r.proto d5 d6 i3 i4 i5 == (m : Int)) = false›
                go_roundg (gk - 1)
                case measure => have := Hj.out; omega
                case rel => exact ⟨j + 1, by have := Hj.out; omega, by go_num, noneOf_succ Hof.out Hr.out hne, since_kept hbe3 (by assumption) (Nat.le_refl _)⟩
            · have hjn : j = d.rules.length := by have := Hj.out; omega
              have Hn := hide (noneIn_succ Hin.out Hd.out (hjn ▸ Hof.out))
              clear hjn
              go_wp2
              go_roundg (g2 - 1)
              case measure => have := Hk.out; omega
              case rel => exact ⟨k + 1, by have := Hk.out; omega, by go_num, Hn.out, hbe3⟩
        · have hkn : k = l.length := by have := Hk.out; have := hll.out; omega
          have Hn : Hid (noneOver sc ((m : Int) - 1) l) := noneOver_pred Hov.out (hkn ▸ Hin.out)
          clear hkn
          go_wp2
          go_roundg m
          case measure => omega
          case rel => exact ⟨by go_num, by omega, Hn.out, hbe2⟩
end Go.Proofs.Ytgkhenplbljbbaa
