
/- The examples of the chapter: what each call of lives returns. -/
import Derived.Test.YtdkinfglpnajmaaChecked
import Derived.Deep.RegionHeld3
import Derived.Deep.DrawnRows
import Derived.Deep.DeepCutAuto
import Derived.Deep.LoopGhost
import Derived.Outline
import Derived.Handy
import Derived.Test.YtdkinfglpnajmaaGu
import Derived.Test.YtdkinfglpnajmaaGv
import Derived.Test.YtdkinfglpnajmaaGn
import Derived.Test.YtdkinfglpnajmaaGc
set_option linter.unusedVariables false
set_option linter.unusedSimpArgs false
set_option linter.unusedSectionVars false
namespace Go.Proofs.Ytdkinfglpnajmaa
open Go.RowKit

def LL : List Pc := [⟨2, 3⟩, ⟨0, 0⟩, ⟨5, 1⟩, ⟨0, 2⟩]
def L2 : List Pc := [⟨0, 2⟩, ⟨1, 1⟩]
def MS : List UInt8 := [97, 98, 99, 100, 101, 102]
def XS : List UInt8 := [88, 89, 90, 87]
def CC : List Pc := [⟨4, 1⟩, ⟨5, 1⟩, ⟨0, 1⟩]
def P0 : List Pc := [⟨2, 3⟩, ⟨5, 1⟩]
def P1 : List Pc := [⟨0, 2⟩]
def JJ : List Pc := [⟨2, 4⟩, ⟨0, 2⟩]
def QQ : List Pc := [⟨2, 2⟩, ⟨4, 1⟩, ⟨5, 1⟩, ⟨0, 2⟩]
theorem e1 : gath MS LL = [99, 100, 101, 102, 97, 98] := by decide
theorem e2 : win 0 2 (2 + 3) LL = CC := by decide
theorem e3 : pkt (min 4 65536) LL = [P0, P1] := by decide
theorem e4 : scat MS (places LL) XS = [97, 98, 88, 89, 90, 87] := by decide
theorem e5 : chk LL 9223372036854775807 = 0 := by decide
theorem e6 : chk LL 6 = 0 := by decide
theorem e7 : chk LL 5 = 1 := by decide
theorem e8 : jn (win 0 0 (total LL) LL) = JJ := by decide
theorem e9 : pgs 4 (win 0 0 (total LL) LL) = QQ := by decide
theorem e10 : total LL = 6 := by decide
theorem e11 : (places LL).Nodup := by decide
theorem e12 : ¬ (places L2).Nodup := by decide
theorem e13 : chk L2 6 = 0 := by decide
theorem e14 : ∀ p ∈ LL, i64 p.pos ∧ i64 p.len := pc_64 e5 max64
theorem p1 : places CC = [4, 5, 0] := by decide
theorem p2 : places P0 = [2, 3, 4, 5] := by decide
theorem p3 : places P1 = [0, 1] := by decide

theorem heap_bs {W : World} {g : Nat} {bs : List UInt8} {fr : Nat × Nat} (h : W.heap[g]? = some (.cells (u8C bs).toArray 5 fr)) : Bs W g 0 bs :=
  ⟨heap_lt h, fun j x hx => by
    rw [cell_of_row _ _ _ _ _ _ h]
    simp [u8C, hx]⟩
/-- the list and the memory of the examples, in a world -/
structure Ex (b1 b2 : Nat) (W : World) : Prop where
  l : Sl pcT W (low W.heap.size) (some ⟨b1, 0, none⟩) 4 LL
  m : Bs W b2 0 MS
theorem Ex.kept {b1 b2 : Nat} {W W' : World} (h : Ex b1 b2 W) (hk : Kept W W') : Ex b1 b2 W' := ⟨h.l.kept hk, h.m.kept hk⟩
theorem x_gather {b1 b2 : Nat} {W : World} (h : Ex b1 b2 W) : Calls Try.prog 12 #[.slice (some ⟨b2, 0, none⟩) 6 6, .slice (some ⟨b1, 0, none⟩) 4 4] W fun e w' => ∃ g, e = .returned (.tuple #[.slice (some ⟨g, 0, none⟩) 6 6, .int .i64 0]) ∧ Bs w' g 0 [99, 100, 101, 102, 97, 98] ∧ Kept W w' := by
  have hg := gather_ok b2 MS (some ⟨b1, 0, none⟩) 6 6 4 4 LL W h.l h.m rfl (by omega) (Nat.le_refl _) (by unfold maxLen; omega) e6
  rw [e1] at hg
  refine hg.mono ?_
  rintro e w' ⟨g, rfl, _, h2, h3⟩
  exact ⟨g, rfl, h2, h3⟩
theorem x_cut {b1 b2 : Nat} {W : World} (h : Ex b1 b2 W) : Calls Try.prog 18 #[.slice (some ⟨b1, 0, none⟩) 4 4, .int .i64 2, .int .i64 3] W fun e w' => ∃ A', e = .returned (.tuple #[.slice A' 3 3, .int .i64 0]) ∧ Sl pcT w' (low w'.heap.size) A' 3 CC ∧ Kept W w' := by
  have hg := cutN_ok (some ⟨b1, 0, none⟩) 4 4 LL 2 3 W h.l e5 (by omega) (by omega) (by rw [e10]; omega)
  rw [e2] at hg
  exact hg
theorem x_packets {b1 b2 : Nat} {W : World} (h : Ex b1 b2 W) : Calls Try.prog 21 #[.slice (some ⟨b1, 0, none⟩) 4 4, .int .i64 4] W fun e w' => ∃ b off A0 A1, e = .returned (.tuple #[.slice (some ⟨b, off, none⟩) 2 2, .int .i64 0]) ∧ b < w'.heap.size ∧ (∀ w2, Kept w' w2 → w2.cell? ⟨b, off, none⟩ = some (.slice A0 2 2) ∧ w2.cell? ⟨b, off + 1, none⟩ = some (.slice A1 1 1)) ∧ Sl pcT w' (low w'.heap.size) A0 2 P0 ∧ Sl pcT w' (low w'.heap.size) A1 1 P1 ∧ Kept W w' := by
  have hg := packets_ok (some ⟨b1, 0, none⟩) 4 4 LL 4 W h.l e5 (by omega)
  rw [e3] at hg
  refine hg.mono ?_
  rintro e w' ⟨A', rfl, h2, h3⟩
  have h2' : Sl plT w' (low w'.heap.size) A' 2 [P0, P1] := h2
  obtain ⟨xs, b, off, A0, hx, rfl, hb, _, c0, s0⟩ := pl_at h2' (Below.refl _ w') (show 0 < 2 by omega)
  obtain ⟨ys, b', off', A1, hy, hA, _, _, c1, s1⟩ := pl_at h2' (Below.refl _ w') (show 1 < 2 by omega)
  cases hA
  cases hx; cases hy
  refine ⟨b, off, A0, A1, rfl, hb, fun w2 hk => ⟨?_, ?_⟩, s0, s1, h3⟩
  · exact (hk.cell (p := ⟨b, off, none⟩) hb).trans c0
  · exact (hk.cell (p := ⟨b, off + 1, none⟩) hb).trans c1
theorem x_scat {b1 b2 : Nat} {W : World} {D : Option Addr} (h : Ex b1 b2 W) (hD : Sl u8T W (low W.heap.size) D 4 XS) : Calls Try.prog 17 #[.slice (some ⟨b2, 0, none⟩) 6 6, .slice (some ⟨b1, 0, none⟩) 4 4, .slice D 4 4] W fun e w' => ∃ g, e = .returned (.tuple #[.slice (some ⟨g, 0, none⟩) 6 6, .int .i64 0]) ∧ Bs w' g 0 [97, 98, 88, 89, 90, 87] ∧ Kept W w' := by
  have hg := scat_ok b2 MS (some ⟨b1, 0, none⟩) D 6 6 4 4 4 4 XS LL W h.l h.m rfl (by omega) e6 e11 hD (by omega) (by rw [e10]; omega)
  rw [e4] at hg
  refine hg.mono ?_
  rintro e w' ⟨g, rfl, _, h2, h3, h4⟩
  exact ⟨g, rfl, heap_bs h3, h4⟩
theorem x_len {b1 b2 : Nat} {W : World} (h : Ex b1 b2 W) : Calls Try.prog 14 #[.slice (some ⟨b1, 0, none⟩) 4 4] W fun e w' => e = .returned (.int .i64 6) ∧ Kept W w' := by
  have hg := len_any (some ⟨b1, 0, none⟩) 4 4 LL W h.l e14 (by omega)
  rw [e5, if_pos rfl, e10] at hg
  exact hg
theorem x_check6 {b1 b2 : Nat} {W : World} (h : Ex b1 b2 W) : Calls Try.prog 15 #[.slice (some ⟨b1, 0, none⟩) 4 4, .int .i64 6] W fun e w' => e = .returned (.int .i64 0) ∧ Kept W w' := by
  have hg := check_any (some ⟨b1, 0, none⟩) 4 4 LL 6 W h.l e14 (by unfold i64; omega) (by omega)
  rw [e6] at hg
  exact hg
theorem x_check5 {b1 b2 : Nat} {W : World} (h : Ex b1 b2 W) : Calls Try.prog 15 #[.slice (some ⟨b1, 0, none⟩) 4 4, .int .i64 5] W fun e w' => e = .returned (.int .i64 1) ∧ Kept W w' := by
  have hg := check_any (some ⟨b1, 0, none⟩) 4 4 LL 5 W h.l e14 (by unfold i64; omega) (by omega)
  rw [e7] at hg
  exact hg
theorem x_places {A : Option Addr} {n c : Nat} {l : List Pc} {ps : List Int} {W : World} (hl : Sl pcT W (low W.heap.size) A n l) (hb : ∀ p ∈ l, 0 ≤ p.pos ∧ p.pos ≤ 64 ∧ 0 ≤ p.len) (ht : total l ≤ 65536) (hn : n ≤ 2000) (hp : places l = ps) : Calls Try.prog 11 #[.slice A n c] W fun e w' => ∃ A' c', e = .returned (.slice A' ps.length c') ∧ Sl inT w' (low w'.heap.size) A' ps.length ps ∧ Kept W w' := by
  refine (places_any A n c l W hl (fun p h => ⟨(hb p h).1, (hb p h).2.2⟩) ht (fun p h => by have := hb p h; omega) hn).mono ?_
  rintro e w' ⟨v, m, rfl, h1, h2⟩
  rw [hp] at h1
  obtain ⟨A', c', rfl, _, _⟩ := h1.isSlice
  have hm := h1.1
  subst hm
  exact ⟨A', c', rfl, h1.sl, h2⟩
theorem x_join {b1 b2 : Nat} {W : World} (h : Ex b1 b2 W) : Calls Try.prog 22 #[.slice (some ⟨b1, 0, none⟩) 4 4] W fun e w' => ∃ b off, e = .returned (.tuple #[.slice (some ⟨b, off, none⟩) 2 2, .int .i64 0]) ∧ Sl pcT w' (low w'.heap.size) (some ⟨b, off, none⟩) 2 JJ ∧ Kept W w' := by
  have hg := join_ok (some ⟨b1, 0, none⟩) 4 4 LL W h.l e5
  rw [e8] at hg
  refine hg.mono ?_
  rintro e w' ⟨A', rfl, h1, h2⟩
  have h1' : Sl pcT w' (low w'.heap.size) A' 2 JJ := h1
  obtain ⟨_, b, off, _, rfl, _⟩ := pc_at h1' (Below.refl _ w') (show 0 < 2 by omega)
  exact ⟨b, off, rfl, h1', h2⟩
theorem x_pages {b1 b2 : Nat} {W : World} (h : Ex b1 b2 W) : Calls Try.prog 23 #[.slice (some ⟨b1, 0, none⟩) 4 4, .int .i64 4] W fun e w' => ∃ b off, e = .returned (.tuple #[.slice (some ⟨b, off, none⟩) 4 4, .int .i64 0]) ∧ Sl pcT w' (low w'.heap.size) (some ⟨b, off, none⟩) 4 QQ ∧ Kept W w' := by
  have hg := pages_in (some ⟨b1, 0, none⟩) 4 4 LL 4 W h.l e5 (by omega) (by omega)
  rw [e9] at hg
  refine hg.mono ?_
  rintro e w' ⟨A', h1, h2⟩
  unfold PagesR at h1
  rw [if_pos (by decide)] at h1
  obtain ⟨rfl, h1⟩ := h1
  have h1' : Sl pcT w' (low w'.heap.size) A' 4 QQ := h1
  obtain ⟨_, b, off, _, rfl, _⟩ := pc_at h1' (Below.refl _ w') (show 0 < 4 by omega)
  exact ⟨b, off, rfl, h1', h2⟩
theorem x_there {b1 b2 b3 : Nat} {W : World} (h : Ex b1 b2 W) (hl : Sl pcT W (low W.heap.size) (some ⟨b3, 0, none⟩) 2 L2) : Calls Try.prog 17 #[.slice (some ⟨b2, 0, none⟩) 6 6, .slice (some ⟨b3, 0, none⟩) 2 2, .slice none 0 0] W fun e w' => e = .returned (.tuple #[.slice none 0 0, .int .i64 8]) ∧ Kept W w' :=
  scat_there (some ⟨b2, 0, none⟩) (some ⟨b3, 0, none⟩) none 6 6 2 2 0 0 L2 W hl (by omega) e13 e12
theorem x_conv {W : World} {g n c : Nat} {bs : List UInt8} (h : Bs W g 0 bs) (hn : bs.length = n) : (convert 29 9 (.slice (some ⟨g, 0, none⟩) n c)).run Try.prog W = .ok (.string ⟨bs.toArray⟩) W := by
  subst hn
  refine run_convert_bytes_back (P := Try.prog) W 29 9 5 ⟨g, 0, none⟩ c bs Try.underlying29 Try.underlying5 Try.underlying9 (fun j hj => ?_)
  rw [Addr.add_mid]
  have := h.2 j bs[j] (List.getElem?_eq_getElem hj)
  exact this
end Go.Proofs.Ytdkinfglpnajmaa
