
/- The numbers of a descriptor. The list reads as bytes. -/
import Derived.Test.YtokijdgakphfiaaDoorChecked
import Derived.Deep.RegionHeld3
import Derived.Deep.DrawnRows
import Derived.Deep.DeepCutAuto
import Derived.Deep.LoopGhost
import Derived.Outline
import Derived.Handy
import Derived.Deep.RegionLaw
import Derived.Laws.BitsAllLaws
import Derived.Test.YtokijdgakphfiaaDoorSc
namespace Go.Proofs.YtokijdgakphfiaaDoor
open Go.RowKit
attribute [local go_sem ↓] Go.wp_at_zero Go.wp_at_succ

def byT : Ty UInt8 := Ty.flat 1 (fun b : UInt8 => [.int .u8 (b.toNat : Int)]) (fun _ => True) (fun _ => rfl)
theorem by_at {w w' : World} {B n k : Nat} {A : Option Addr} {l : List UInt8} (h : Sl byT w (low B) A n l) (hb : Below B w w') (hk : k < n) : ∃ x b off, l[k]? = some x ∧ A = some ⟨b, off, none⟩ ∧ b < B ∧ b < w'.heap.size ∧
    w'.cell? ⟨b, off + k, none⟩ = some (.int .u8 (x.toNat : Int)) := by
  obtain ⟨x, b, off, cs, hx, hA, hbb, ⟨rfl, _⟩, hc⟩ := h.at hk
  have hc' := range_below hc hb hbb
  have h0 := hc' 0 _ rfl
  simp only [byT, Ty.flat, Nat.mul_one, Nat.add_zero] at h0
  exact ⟨x, b, off, hx, hA, hbb, World.block_lt_of_cell? w' _ h0, h0⟩
theorem or_join (a b : Nat) (ha : a < 256) (hb : b < 256) : bits BinOp.or .u16 (a : Int) ((b : Int) * 256) = (a : Int) + 256 * (b : Int) := by
  have e : ((b : Int) * 256) = ((b * 256 : Nat) : Int) := by omega
  rw [e, u16_or_nat a (b * 256) (by omega) (by omega)]
  have h2 := Nat.two_pow_add_eq_or_of_lt (i := 8) (b := a) (by omega) b
  rw [Nat.or_comm, show b * 256 = 2 ^ 8 * b by omega, ← h2]
  omega
theorem or_joinZ {a b : Int} (h0 : 0 ≤ a) (h1 : a < 256) (h2 : 0 ≤ b) (h3 : b < 256) : bits BinOp.or .u16 a (b * 256) = a + 256 * b := by
  have h := or_join a.toNat b.toNat (by omega) (by omega)
  rwa [show ((a.toNat : Nat) : Int) = a by omega, show ((b.toNat : Nat) : Int) = b by omega] at h
theorem nums_get : ∀ (l : List UInt8) (k : Nat) (x y : UInt8), l[2 * k]? = some x → l[2 * k + 1]? = some y → (numsL l)[k]? = some (x.toNat + 256 * y.toNat)
  | [], k, x, y, h, _ => by simp at h
  | [a], 0, x, y, _, h => by simp at h
  | [a], k + 1, x, y, h, _ => by simp at h
  | a :: b :: t, 0, x, y, hx, hy => by
    have e1 : a = x := by simpa using hx
    have e2 : b = y := by simpa using hy
    rw [numsL, e1, e2]; rfl
  | a :: b :: t, k + 1, x, y, hx, hy => by
    rw [show 2 * (k + 1) = 2 * k + 1 + 1 by omega, List.getElem?_cons_succ, List.getElem?_cons_succ] at hx
    rw [show 2 * (k + 1) + 1 = (2 * k + 1) + 1 + 1 by omega, List.getElem?_cons_succ, List.getElem?_cons_succ] at hy
    rw [numsL, List.getElem?_cons_succ]
    exact nums_get t k x y hx hy
/-- the bytes have another width than a descriptor -/
def badWidth (bs : List UInt8) : Prop := bs.length % 2 ≠ 0 ∨ bs.length < 2 ∨ (bs.getD 0 0).toNat ≠ bs.length
/-- what numbers returns -/
def NumPost (bs : List UInt8) (w : World) (e : Ending) (w' : World) : Prop :=
  (badWidth bs ∧ e = .returned (.tuple #[.slice none 0 0, .int .i64 5]) ∧ Kept w w') ∨
  (¬ badWidth bs ∧ bs.getD 1 0 ≠ 3 ∧ e = .returned (.tuple #[.slice none 0 0, .int .i64 4]) ∧ Kept w w') ∨
  (¬ badWidth bs ∧ bs.getD 1 0 = 3 ∧ ∃ g m, 2 + 2 * m = bs.length ∧ e = .returned (.tuple #[.slice (some ⟨g, 0, none⟩) m m, .int .i64 0]) ∧ Fill w' g 40 m (.int .u16 0) (u16C (numsL (bs.drop 2))) ∧ w.heap.size ≤ g ∧ g < w'.heap.size ∧ Kept w w')
set_option maxRecDepth 100000 in
set_option maxHeartbeats 1000000 in
theorem nums_any (A : Option Addr) (n c : Nat) (bs : List UInt8) (w : World) (hn : n ≤ 1000) (hb : Sl byT w (low w.heap.size) A n bs) :
    Calls Tryd.prog 27 #[.slice A n c] w (NumPost bs w) := by
  have hl := hb.1
  by_cases h0 : n % 2 = 0
  · by_cases h2 : n < 2
    · have hn0 : n = 0 := by omega
      have hbw := hide (show badWidth bs from .inr (.inl (by omega)))
      subst hn0
      clear hl
      go_enter Tryd.func27, Tryd.ntmps27
      go_wp2
      refine bodyPost_ret (v := .tuple #[.slice none 0 0, .int .i64 5]) (by simp [results, Tryd.results27, go_sem, *]) rfl ?_
      exact .inl ⟨hbw.out, rfl, by go_grown⟩
    · obtain ⟨x0, b, off, hx0, rfl, hbw0, hbr, e0⟩ := by_at hb (Below.refl _ _) (show 0 < n by omega)
      obtain ⟨x1, b', off', hx1, he, _, _, e1⟩ := by_at hb (Below.refl _ _) (show 1 < n by omega)
      injection he with he
      injection he with he1 he2 _
      subst he1 he2
      have g0 : bs.getD 0 0 = x0 := by simp [List.getD, hx0]
      have g1 : bs.getD 1 0 = x1 := by simp [List.getD, hx1]
      have heven : ((n : Int) % 2 != 0) = false := by simp; omega
      have hdec : decide ((n : Int) < 2) = false := by simp; omega
      have hnl : ¬ (n : Int) < 2 := by omega
      have hge : (2 : Int) ≤ (n : Int) := by omega
      have hge1 : (1 : Int) < (n : Int) := by omega
      have hge0 : (0 : Int) < (n : Int) := by omega
      obtain ⟨z0, hz0⟩ : ∃ z : Int, z = (x0.toNat : Int) := ⟨_, rfl⟩
      obtain ⟨z1, hz1⟩ : ∃ z : Int, z = (x1.toNat : Int) := ⟨_, rfl⟩
      have hz01 : 0 ≤ z0 ∧ z0 < 256 := by have := x0.toNat_lt; omega
      have hz11 : 0 ≤ z1 ∧ z1 < 256 := by have := x1.toNat_lt; omega
      rw [← hz0] at e0
      rw [← hz1] at e1
      simp only [Nat.add_zero] at e0
      obtain ⟨q0, q1⟩ := hz01
      obtain ⟨q2, q3⟩ := hz11
      by_cases hw : z0 = (n : Int)
      · have hbad := hide (show ¬ badWidth bs by unfold badWidth; rw [g0, hl]; omega)
        by_cases h3 : z1 = 3
        · have h3n : x1.toNat = 3 := by omega
          have h3d := hide (show bs.getD 1 0 = 3 by rw [g1]; exact UInt8.toNat_inj.1 h3n)
          clear h3n
          obtain ⟨m, hm⟩ : ∃ m, n = 2 + 2 * m := ⟨n / 2 - 1, by omega⟩
          have hmk := make16 m (by omega)
          have hcast : ((m : Nat) : Int) = (n : Int) / 2 - 1 := by omega
          rw [hcast] at hmk
          have hw' : ((n : Int) != z0) = false := by simp [hw]
          have h3' : (z1 != 3) = false := by simp [h3]
          have Hnl := hide (show (numsL (bs.drop 2)).length = m from (pairs_nums m (bs.drop 2) (by rw [List.length_drop]; omega)).2.1)
          have Hm := hide hm
          have Hl := hide hl
          obtain ⟨i40, hi40, hz400, hz401, hz402⟩ := info_parts info40
          clear hl hx0 hx1 g0 g1 hz0 hz1 hw h3 h0 h2 hm hcast
          go_enter Tryd.func27, Tryd.ntmps27
          go_wp2_with fail
          go_loopg [4, 5] m (fun gf s4 s5 wr => ∃ k : Nat, k + gf = m ∧ s5 = .int .i64 (2 + 2 * (k : Int)) ∧ s4 = .slice (some ⟨w.heap.size, 0, none⟩) k m ∧ Hid (Fill wr w.heap.size 40 m (.int .u16 0) (u16C ((numsL (bs.drop 2)).take k))) ∧ Kept w wr ∧ w.heap.size < wr.heap.size)
          case atStart => exact ⟨0, by omega, rfl, rfl, hide (by rw [List.take_zero]; exact Fill.start (heap_at _ rfl)), by go_grown, by simp⟩
          case round =>
            obtain ⟨k, hk, rfl, rfl, HF, hkw, hsz⟩ := hrel
            have Hk := hide hk
            have hkm : k ≤ m := by omega
            clear hk
            by_cases hlt : k < m
            · have hin : (2 : Int) + 2 * (k : Int) < (n : Int) := by have := Hm.out; omega
              obtain ⟨x, bx, ox, hx, hex, _, _, ex⟩ := by_at hb hkw (show 2 + 2 * k < n by have := Hm.out; omega)
              obtain ⟨y, bb, oy, hy, hey, _, _, ey⟩ := by_at hb hkw (show 3 + 2 * k < n by have := Hm.out; omega)
              injection hex with hex
              injection hex with hex1 hex2 _
              subst hex1 hex2
              injection hey with hey
              injection hey with hey1 hey2 _
              subst hey1 hey2
              have hbr2 : b < wr.heap.size := by have := hkw.size; have : b < w.heap.size := hbw0; omega
              obtain ⟨zx, hzx⟩ : ∃ z : Int, z = (x.toNat : Int) := ⟨_, rfl⟩
              obtain ⟨zy, hzy⟩ : ∃ z : Int, z = (y.toNat : Int) := ⟨_, rfl⟩
              have p0 : 0 ≤ zx := by omega
              have p1 : zx < 256 := by have := x.toNat_lt; omega
              have p2 : 0 ≤ zy := by omega
              have p3 : zy < 256 := by have := y.toNat_lt; omega
              rw [← hzx] at ex
              rw [← hzy] at ey
              have Hzx := hide hzx
              have Hzy := hide hzy
              have Hx := hide hx
              have Hy := hide hy
              clear hx hy hzx hzy e0 e1
              have hpos : (0 : Int) ≤ 2 + 2 * (k : Int) := by omega
              have hpos1 : (0 : Int) ≤ 2 + 2 * (k : Int) + 1 := by omega
              have hin1 : (2 : Int) + 2 * (k : Int) + 1 < (n : Int) := by have := Hm.out; omega
              have ht1 : ((2 : Int) + 2 * (k : Int)).toNat = 2 + 2 * k := by omega
              have ht2 : ((2 : Int) + 2 * (k : Int) + 1).toNat = 3 + 2 * k := by omega
              go_wp2_with fail
              have hor := or_joinZ p0 p1 p2 p3
              have hv1 : IntKind.u16.wrap zx = zx := by rw [IntKind.wrap_u16]; omega
              have hv2 : IntKind.u16.wrap zy = zy := by rw [IntKind.wrap_u16]; omega
              have hv3 : IntKind.u16.wrap (zy * 256) = zy * 256 := by rw [IntKind.wrap_u16]; omega
              have hwr : IntKind.i64.wrap (2 + 2 * (k : Int) + 1) = 2 + 2 * (k : Int) + 1 := by rw [IntKind.wrap_i64]; omega
              have hlk : ((numsL (bs.drop 2)).take k).length = k := by rw [List.length_take, Hnl.out]; omega
              have hlk2 := hide (show (u16C ((numsL (bs.drop 2)).take k)).length = k by unfold u16C; rw [List.length_map]; exact hlk)
              clear hlk
              go_region_law (first
                | (refine step_append_fill rfl (.tmp 39) (.tmp 53) 24 rfl 40 i40 Tryd.underlying24 hi40 hz401 w.heap.size k m (.int .u16 0) _ (by rfl) ⟨heap_drew (heap_past HF.out.1), HF.out.2⟩ hlk2.out.symm wr.heap.size 1 1 #[.int .u16 (zx + 256 * zy)] 40 (by rfl) (heap_drew (heap_at _ rfl)) (by rfl) (by simp [Value.oneCell']) (by rw [hlk2.out]; exact hlt) ?_; intro w4 hF4 hs4 ho4 hb4))
              all_goals go_wp2_with fail
              all_goals
                go_roundg (gk - 1)
                case measure => have := Hk.out; omega
                case rel =>
                  have e4 : u16C ((numsL (bs.drop 2)).take (k + 1)) = u16C ((numsL (bs.drop 2)).take k) ++ [.int .u16 (zx + 256 * zy)] := by
                    have hg := nums_get (bs.drop 2) k x y (by rw [List.getElem?_drop]; exact Hx.out) (by rw [List.getElem?_drop, show 2 + (2 * k + 1) = 3 + 2 * k by omega]; exact Hy.out)
                    obtain ⟨hlt9, e9⟩ := List.getElem?_eq_some_iff.1 hg
                    unfold u16C
                    rw [List.take_succ_eq_append_getElem hlt9, List.map_append, e9, Hzx.out, Hzy.out]
                    simp
                  exact ⟨k + 1, by have := Hk.out; omega, by go_num, by go_simp, by rw [e4]; exact hide hF4, hb4 _ _ (Nat.le_refl _) (by go_grown), by rw [hs4]; simp; omega⟩
            · have hkm' : k = m := by omega
              have hfin : (numsL (bs.drop 2)).take k = numsL (bs.drop 2) := by rw [List.take_of_length_le (by rw [Hnl.out]; omega)]
              rw [hfin] at HF
              have Hkm := hide hkm'
              have hlt' : (n : Int) ≤ 2 + 2 * (k : Int) := by have := Hm.out; omega
              clear hkm' hfin e0 e1
              go_wp2_with fail
              refine bodyPost_ret (v := .tuple #[.slice (some ⟨w.heap.size, 0, none⟩) k m, .int .i64 0]) (by simp [results, Tryd.results27, go_sem, *]) rfl ?_
              exact .inr (.inr ⟨hbad.out, h3d.out, w.heap.size, m, by rw [Hl.out, Hm.out], by rw [Hkm.out], HF.out, Nat.le_refl _, hsz, hkw⟩)
        · have hne := hide (show bs.getD 1 0 ≠ 3 by rw [g1]; intro e; apply h3; rw [hz1, e]; rfl)
          have hw' : ((n : Int) != z0) = false := by simp [hw]
          have h3' : (z1 != 3) = true := by simp [h3]
          clear hl hx0 hx1 g0 g1 hz0 hz1 hw h3 h0 h2
          go_enter Tryd.func27, Tryd.ntmps27
          go_wp2
          refine bodyPost_ret (v := .tuple #[.slice none 0 0, .int .i64 4]) (by simp [results, Tryd.results27, go_sem, *]) rfl ?_
          exact .inr (.inl ⟨hbad.out, hne.out, rfl, by go_grown⟩)
      · have hbw := hide (show badWidth bs by right; right; rw [g0, hl]; omega)
        have hw' : ((n : Int) != z0) = true := by simp; omega
        clear hl hx0 hx1 g0 g1 hz0 hz1 hw h0 h2
        go_enter Tryd.func27, Tryd.ntmps27
        go_wp2
        refine bodyPost_ret (v := .tuple #[.slice none 0 0, .int .i64 5]) (by simp [results, Tryd.results27, go_sem, *]) rfl ?_
        exact .inl ⟨hbw.out, rfl, by go_grown⟩
  · have hbw := hide (show badWidth bs from .inl (by omega))
    have hodd : ((n : Int) % 2 != 0) = true := by simp; omega
    clear hl h0
    go_enter Tryd.func27, Tryd.ntmps27
    go_wp2
    refine bodyPost_ret (v := .tuple #[.slice none 0 0, .int .i64 5]) (by simp [results, Tryd.results27, go_sem, *]) rfl ?_
    exact .inl ⟨hbw.out, rfl, by go_grown⟩
end Go.Proofs.YtokijdgakphfiaaDoor
