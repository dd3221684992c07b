
/- The descriptor of numbers, by definition. The list reads as numbers of 16 bits. -/
import Derived.Test.YtokijdgakphfiaaDoorChecked
import Derived.Deep.RegionHeld3
import Derived.Deep.DrawnRows
import Derived.Deep.DeepCutAuto
import Derived.Deep.LoopGhost
import Derived.Outline
import Derived.Handy
import Derived.Deep.RegionLaw
import Derived.Laws.IdiomStrings
import Derived.Test.YtokijdgakphfiaaDoorSg
namespace Go.Proofs.YtokijdgakphfiaaDoor
open Go.RowKit
attribute [local go_sem ↓] Go.wp_at_zero Go.wp_at_succ

/-- a slice literal of two elements of one cell each -/
theorem Own.lit2 {α : Type} (t : Ty α) (h1 : t.size = 1) (e : TypeId) (w : World) {base b : Nat} {u v : Value} {x y : α} (hb : base ≤ b) (h : w.heap[b]? = some (.cells #[u, v] e (0, 0)))
    (hx : t.rel w (apart w (.slice (some ⟨b, 0, none⟩) 2 2)) x [u]) (hy : t.rel w (apart w (.slice (some ⟨b, 0, none⟩) 2 2)) y [v]) : Own t e base w (.slice (some ⟨b, 0, none⟩) 2 2) 2 [x, y] :=
  ⟨rfl, [u, v], ⟨by simp [h1], .inr ⟨b, 2, #[u, v], rfl, hb, h, Nat.le_refl _, by decide, by simp [h1], by simp [h1]⟩⟩, fun i z hz => by
    rw [h1]
    match i, hz with
    | 0, hz => have e : x = z := by simpa using hz
               rw [← e]; exact hx
    | 1, hz => have e : y = z := by simpa using hz
               rw [← e]; exact hy
    | i + 2, hz => simp at hz⟩
/-- a pair of bytes in a block -/
theorem sl_pair {W : World} {gb : Nat} {t : TypeId} {fr : Nat × Nat} {F : Nat → Prop} {x : Nat} (hx : x < 65536) (h : W.heap[gb]? = some (.cells #[.int .u8 ((x : Int) % 256), .int .u8 ((x : Int) / 256)] t fr)) (hF : F gb) :
    Sl byT W F (some ⟨gb, 0, none⟩) 2 [UInt8.ofNat (x % 256), UInt8.ofNat (x / 256)] := by
  have hp := u8C_pair hx
  have e1 : (.int .u8 ((x : Int) % 256) : Value) = .int .u8 ((UInt8.ofNat (x % 256)).toNat : Int) := (List.cons.inj hp).1
  have e2 : (.int .u8 ((x : Int) / 256) : Value) = .int .u8 ((UInt8.ofNat (x / 256)).toNat : Int) := (List.cons.inj (List.cons.inj hp).2).1
  refine Sl.cons hF ⟨rfl, trivial⟩ (range_cons ?_ range_nil) (Sl.one hF ⟨rfl, trivial⟩ (range_cons ?_ range_nil))
  · rw [cell_of_row _ _ _ _ _ _ h, ← e1]; rfl
  · rw [cell_of_row _ _ _ _ _ _ h, ← e2]; rfl

set_option maxRecDepth 100000 in
set_option maxHeartbeats 1000000 in
theorem told_any (A : Option Addr) (n c : Nat) (us : List Nat) (w : World) (hn : n ≤ 1000) (hu : Sl u16T w (low w.heap.size) A n us) :
    Calls Tryd.prog 16 #[.slice A n c] w fun e w' => e = .returned (.string ⟨(toldL us).toArray⟩) ∧ Kept w w' := by
  have hul := hide hu.1
  obtain ⟨i5, hi5, hz50, hz51, hz52⟩ := info_parts info5
  have Hh := hide (u8C_head n)
  go_enter Tryd.func16, Tryd.ntmps16
  go_wp2_with fail
  go_loopg [3, 4] n (fun g s3 s4 wr => ∃ k : Nat, k + g = n ∧ s4 = .int .i64 k ∧ Own byT 5 w.heap.size wr s3 (2 + 2 * k) ([UInt8.ofNat (2 + 2 * n), 3] ++ pairsL (us.take k)) ∧ Kept w wr)
  case atStart =>
    refine ⟨0, by omega, rfl, ?_, by go_grown⟩
    have e1 : (.int .u8 ((2 + 2 * (n : Int)) % 256) : Value) = .int .u8 ((UInt8.ofNat (2 + 2 * n)).toNat : Int) := (List.cons.inj Hh.out).1
    rw [List.take_zero]
    exact Own.lit2 byT rfl 5 _ (Nat.le_refl _) (heap_at _ rfl) ⟨by rw [e1], trivial⟩ ⟨rfl, trivial⟩
  case round =>
    obtain ⟨k, hk, rfl, hown, hkw⟩ := hrel
    have Hk := hide hk
    have hkn : k ≤ n := by omega
    clear hk
    by_cases hlt : k < n
    · obtain ⟨x, b, off, hx, rfl, hbw, hbr, hx6, e0⟩ := u16_at hu hkw hlt
      obtain ⟨z, hz⟩ : ∃ z : Int, z = (x : Int) := ⟨_, rfl⟩
      rw [← hz] at e0
      have hz0 : 0 ≤ z := by omega
      have hz1 : z < 65536 := by omega
      have Hx := hide hx
      have Hz := hide hz
      have Hx6 := hide hx6
      clear hx hx6 hz
      have hlt' : (k : Int) < (n : Int) := by omega
      have hk0 : (0 : Int) ≤ (k : Int) := by omega
      have hpair := hide (show pairsL (us.take (k + 1)) = _ from pairsL_take Hx.out)
      have ht1 : z.tmod 256 = z % 256 := Int.tmod_eq_emod_of_nonneg hz0
      have ht2 : z.tdiv 256 = z / 256 := Int.tdiv_eq_ediv_of_nonneg hz0
      have hv1 : IntKind.u8.wrap (z % 256) = z % 256 := by rw [IntKind.wrap_u8]; omega
      have hv2 : IntKind.u8.wrap (z / 256) = z / 256 := by rw [IntKind.wrap_u8]; omega
      have hv3 : IntKind.u16.wrap (z % 256) = z % 256 := by rw [IntKind.wrap_u16]; omega
      have hv4 : IntKind.u16.wrap (z / 256) = z / 256 := by rw [IntKind.wrap_u16]; omega
      go_wp2_with fail
      go_region_law (first
        | (refine step_append_sl (T := byT) rfl (.tmp 17) (.tmp 30) 30 rfl w.heap.size 5 i5 _ 1 Tryd.underlying30 hi5 hz50 hz51 hz52 rfl (by decide) u3 (2 + 2 * k) _ (by rfl) ((hown.alloc _).drew) (some ⟨wr.heap.size, 0, none⟩) 2 2 [UInt8.ofNat (x % 256), UInt8.ofNat (x / 256)] (by rfl) (sl_pair (t := 5) (fr := (0, 0)) Hx6.out (by rw [← Hz.out]; exact heap_drew (heap_at _ rfl)) ⟨by simp, fun e => by have := (hown.lt e).2; omega⟩) (by rintro d cs ⟨rfl, _⟩ u hu; simp at hu; rw [hu]; rfl) (by unfold maxLen; omega) (by omega) (by have := hkw.size; simp; omega) ?_; intro v4 w4 hown4 hg4 hb4 hat4))
      all_goals go_wp2_with fail
      all_goals
        go_roundg (gk - 1)
        case measure => have := Hk.out; omega
        case rel =>
          have hk4 : Kept w w4 := Below.trans ((hkw.alloc hkw.size _)) (of_drew (hb4.mono (Nat.le_refl _)))
          exact ⟨k + 1, by have := Hk.out; omega, by go_num, by rw [hpair.out, ← List.append_assoc, show 2 + 2 * (k + 1) = 2 + 2 * k + 2 by omega]; exact hown4, hk4⟩
    · have hkn' : k = n := by omega
      have hfin : [UInt8.ofNat (2 + 2 * n), 3] ++ pairsL (us.take k) = toldL us := by
        rw [hkn', ← hul.out, List.take_length]; rfl
      rw [hfin] at hown
      have hlen := hown.1
      rcases hown.form with ⟨_, h0⟩ | ⟨g, cap, rfl, hg1, hg2, _, _⟩
      · omega
      · have hsl := hown.sl
        have hconv := run_convert_bytes_back (P := Tryd.prog) wr 30 9 5 ⟨g, 0, none⟩ cap (toldL us) Tryd.underlying30 Tryd.underlying5 Tryd.underlying9 (fun j hj => by
          obtain ⟨x, b, off, hx, he, _, _, e⟩ := by_at hsl (Below.refl _ _) (show j < 2 + 2 * k by omega)
          injection he with he
          injection he with he1 he2 _
          subst he1 he2
          rw [Addr.add_mid, e]
          rw [List.getElem?_eq_getElem hj] at hx
          injection hx with hx
          rw [hx])
        rw [hlen] at hconv
        have hlt' : (n : Int) ≤ (k : Int) := by omega
        clear hkn' hfin hlen hsl
        go_wp2_with fail
        go_ret
        exact ⟨rfl, hkw⟩
end Go.Proofs.YtokijdgakphfiaaDoor
