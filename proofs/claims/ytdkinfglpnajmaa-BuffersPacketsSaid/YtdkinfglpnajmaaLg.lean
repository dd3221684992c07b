
/- What the functions return of whatever list, in one form: the error of Check, and nothing where there is one. -/
import Derived.Test.YtdkinfglpnajmaaChecked
import Derived.Deep.RegionHeld3
import Derived.Deep.DrawnRows
import Derived.Deep.DeepCutAuto
import Derived.Deep.LoopGhost
import Derived.Outline
import Derived.Handy
import Derived.Test.YtdkinfglpnajmaaGu
import Derived.Test.YtdkinfglpnajmaaGv
import Derived.Test.YtdkinfglpnajmaaGn
import Derived.Test.YtdkinfglpnajmaaGg
import Derived.Test.YtdkinfglpnajmaaLa
set_option linter.unusedVariables false
set_option linter.unusedSimpArgs false
set_option linter.unusedSectionVars false
namespace Go.Proofs.Ytdkinfglpnajmaa
open Go.RowKit

def MAXI : Int := 9223372036854775807
theorem pg_max {a n : Int} (h0 : 0 ≤ a) (h1 : 0 < n) (h2 : a + n ≤ 9223372036854775807) : pg 9223372036854775807 n.toNat a n = [⟨a, n⟩] := by
  have hm : a % 9223372036854775807 = a := Int.emod_eq_of_lt h0 (by omega)
  have hmin : min n (9223372036854775807 - a) = n := by omega
  rw [pg_cons (by omega) h1, hm, hmin]
  simp only [Int.sub_self]
  rfl
theorem pgs_max : ∀ {l : List Pc}, posL l → (∀ p ∈ l, p.pos + p.len ≤ 9223372036854775807) → pgs 9223372036854775807 l = l
  | [], _, _ => rfl
  | p :: r, h, hb => by
    have ih := pgs_max h.tail (fun q hq => hb q (List.mem_cons_of_mem _ hq))
    have h1 := h.head
    have h2 := hb p List.mem_cons_self
    unfold pgs at ih ⊢
    rw [List.flatMap_cons, ih, pg_max h1.1 h1.2 h2]
    rfl
section
variable {A : Option Addr} {n c : Nat} {l : List Pc} {w : World}
theorem y_cut (hl : Sl pcT w (low w.heap.size) A n l) (h64 : ∀ p ∈ l, i64 p.pos ∧ i64 p.len) (hn : n ≤ 1000) {e0 : Int} (he : chk l 9223372036854775807 = e0) :
    Calls Try.prog 18 #[.slice A n c, .int .i64 0, .int .i64 0] w fun e w' => ∃ A' K c', e = .returned (.tuple #[.slice A' K c', .int .i64 e0]) ∧ Hid (e0 ≠ 0 → K = 0) ∧ Kept w w' := by
  by_cases h0 : e0 = 0
  · subst h0
    have hp := chk_parts he
    refine (cutN_ok A n c l 0 0 w hl he (by omega) (by omega) (by have := total_nonneg (l := l) (fun p hp' => ⟨(hp.2.1 p hp').1, (hp.2.1 p hp').2.1⟩); omega)).mono ?_
    rintro e w' ⟨A', rfl, _, hk⟩
    exact ⟨A', _, _, rfl, Lib.hid (fun h => absurd rfl h), hk⟩
  · refine (cutN_bad A n c l 0 0 w hl h64 hn (by rw [he]; exact h0)).mono ?_
    rintro e w' ⟨rfl, hk⟩
    exact ⟨none, 0, 0, by rw [he], Lib.hid (fun _ => rfl), hk⟩
theorem y_packets (hl : Sl pcT w (low w.heap.size) A n l) (h64 : ∀ p ∈ l, i64 p.pos ∧ i64 p.len) (hn : n ≤ 1000) {e0 : Int} (he : chk l 9223372036854775807 = e0) :
    Calls Try.prog 21 #[.slice A n c, .int .i64 9223372036854775807] w fun e w' => ∃ A' K c', e = .returned (.tuple #[.slice A' K c', .int .i64 e0]) ∧ Hid (e0 ≠ 0 → K = 0) ∧ Kept w w' := by
  by_cases h0 : e0 = 0
  · subst h0
    refine (packets_ok A n c l 9223372036854775807 w hl he (by omega)).mono ?_
    rintro e w' ⟨A', rfl, _, hk⟩
    exact ⟨A', _, _, rfl, Lib.hid (fun h => absurd rfl h), hk⟩
  · refine (packets_bad A n c l 9223372036854775807 w hl h64 hn (by rw [he]; exact h0)).mono ?_
    rintro e w' ⟨rfl, hk⟩
    exact ⟨none, 0, 0, by rw [he], Lib.hid (fun _ => rfl), hk⟩
theorem y_join (hl : Sl pcT w (low w.heap.size) A n l) (h64 : ∀ p ∈ l, i64 p.pos ∧ i64 p.len) (hn : n ≤ 1000) {e0 : Int} (he : chk l 9223372036854775807 = e0) :
    Calls Try.prog 22 #[.slice A n c] w fun e w' => ∃ A' K c', e = .returned (.tuple #[.slice A' K c', .int .i64 e0]) ∧ Hid (e0 ≠ 0 → K = 0) ∧ Kept w w' := by
  by_cases h0 : e0 = 0
  · subst h0
    refine (join_ok A n c l w hl he).mono ?_
    rintro e w' ⟨A', rfl, _, hk⟩
    exact ⟨A', _, _, rfl, Lib.hid (fun h => absurd rfl h), hk⟩
  · refine (join_bad A n c l w hl h64 hn (by rw [he]; exact h0)).mono ?_
    rintro e w' ⟨rfl, hk⟩
    exact ⟨none, 0, 0, by rw [he], Lib.hid (fun _ => rfl), hk⟩
theorem y_pages (hl : Sl pcT w (low w.heap.size) A n l) (h64 : ∀ p ∈ l, i64 p.pos ∧ i64 p.len) (hn : n ≤ 1000) {e0 : Int} (he : chk l 9223372036854775807 = e0) :
    Calls Try.prog 23 #[.slice A n c, .int .i64 9223372036854775807] w fun e w' => ∃ A' K c', e = .returned (.tuple #[.slice A' K c', .int .i64 e0]) ∧ Hid (e0 ≠ 0 → K = 0) ∧ Kept w w' := by
  by_cases h0 : e0 = 0
  · subst h0
    have hp := chk_parts he
    have hok : okL l := fun p hp' => ⟨(hp.2.1 p hp').1, (hp.2.1 p hp').2.1⟩
    refine (pages_in A n c l 9223372036854775807 w hl he (by omega) (by omega)).mono ?_
    rintro e w' ⟨A', h1, hk⟩
    rw [pgs_max (win_posL 0 0 (total l) hok) (fun q hq => win_le_pos hp.2.1 q hq)] at h1
    unfold PagesR at h1
    rw [if_pos (by have := win_le l 0 0 (total l); omega)] at h1
    obtain ⟨rfl, _⟩ := h1
    exact ⟨A', _, _, rfl, Lib.hid (fun h => absurd rfl h), hk⟩
  · refine (pages_bad A n c l 9223372036854775807 w hl h64 hn (by rw [he]; exact h0)).mono ?_
    rintro e w' ⟨rfl, hk⟩
    exact ⟨none, 0, 0, by rw [he], Lib.hid (fun _ => rfl), hk⟩
theorem y_gather {g : Nat} (hg : Bs w g 0 MEM) (hl : Sl pcT w (low w.heap.size) A n l) (h64 : ∀ p ∈ l, i64 p.pos ∧ i64 p.len) (hn : n ≤ 1000) {e0 : Int} (he : chk l 64 = e0) :
    Calls Try.prog 12 #[.slice (some ⟨g, 0, none⟩) 64 64, .slice A n c] w fun e w' => ∃ A' K c', e = .returned (.tuple #[.slice A' K c', .int .i64 e0]) ∧ Kept w w' := by
  by_cases h0 : e0 = 0
  · subst h0
    refine (gather_ok g MEM A 64 64 n c l w hl hg mem_len (by omega) (Nat.le_refl _) (by unfold maxLen; omega) he).mono ?_
    rintro e w' ⟨g', rfl, _, _, hk⟩
    exact ⟨_, _, _, rfl, hk⟩
  · refine (gather_bad (some ⟨g, 0, none⟩) A 64 64 n c l w hl h64 hn (by omega) (by rw [show ((64 : Nat) : Int) = 64 from rfl, he]; exact h0)).mono ?_
    rintro e w' ⟨rfl, hk⟩
    exact ⟨none, 0, 0, by rw [show ((64 : Nat) : Int) = 64 from rfl, he], hk⟩
theorem y_scat {g : Nat} (hg : Bs w g 0 MEM) (hl : Sl pcT w (low w.heap.size) A n l) (h64 : ∀ p ∈ l, i64 p.pos ∧ i64 p.len) (hn : n ≤ 1000) {e0 : Int} (he : chk l 64 = e0) :
    Calls Try.prog 17 #[.slice (some ⟨g, 0, none⟩) 64 64, .slice A n c, .slice none 0 0] w fun e w' => ∃ A' K c' j, e = .returned (.tuple #[.slice A' K c', .int .i64 j]) ∧ (j = e0 ∨ (e0 = 0 ∧ j = 8)) ∧ Kept w w' := by
  by_cases h0 : e0 = 0
  · subst h0
    have hp := chk_parts he
    have hok : okL l := fun p hp' => ⟨(hp.2.1 p hp').1, (hp.2.1 p hp').2.1⟩
    by_cases hd : (places l).Nodup
    · refine (scat_ok g MEM A none 64 64 n c 0 0 [] l w hl hg mem_len (by omega) he hd (Sl.nil _ _ _ _) (Nat.le_refl _) (by have := total_nonneg hok; omega)).mono ?_
      rintro e w' ⟨g', rfl, _, _, _, hk⟩
      exact ⟨_, _, _, 0, rfl, .inl rfl, hk⟩
    · refine (scat_there (some ⟨g, 0, none⟩) A none 64 64 n c 0 0 l w hl (by omega) he hd).mono ?_
      rintro e w' ⟨rfl, hk⟩
      exact ⟨none, 0, 0, 8, rfl, .inr ⟨rfl, rfl⟩, hk⟩
  · refine (scat_bad (some ⟨g, 0, none⟩) A none 64 64 n c 0 0 l w hl h64 hn (by omega) (by rw [show ((64 : Nat) : Int) = 64 from rfl, he]; exact h0)).mono ?_
    rintro e w' ⟨rfl, hk⟩
    exact ⟨none, 0, 0, e0, by rw [show ((64 : Nat) : Int) = 64 from rfl, he], .inl rfl, hk⟩
end
end Go.Proofs.Ytdkinfglpnajmaa
