
/- Descriptors of numbers. The list reads as numbers of 16 bits. -/
import Derived.Test.YtokijdgakphfiaaDoorChecked
import Derived.Deep.RegionHeld3
import Derived.Deep.DrawnRows
import Derived.Deep.DeepCutAuto
import Derived.Deep.LoopGhost
import Derived.Outline
import Derived.Handy
import Derived.Laws.MakeOwn
import Derived.Deep.RegionLaw
import Derived.Test.YtokijdgakphfiaaDoorSa
namespace Go.Proofs.YtokijdgakphfiaaDoor
open Go.RowKit
attribute [local go_sem ↓] Go.wp_at_zero Go.wp_at_succ

def u16T : Ty Nat := Ty.flat 1 (fun n : Nat => [.int .u16 (n : Int)]) (fun n => n < 65536) (fun _ => rfl)
theorem u16_at {w w' : World} {B n k : Nat} {A : Option Addr} {l : List Nat} (h : Sl u16T w (low B) A n l) (hb : Below B w w') (hk : k < n) : ∃ x b off, l[k]? = some x ∧ A = some ⟨b, off, none⟩ ∧ b < B ∧ b < w'.heap.size ∧ x < 65536 ∧
    w'.cell? ⟨b, off + k, none⟩ = some (.int .u16 (x : Int)) := by
  obtain ⟨x, b, off, cs, hx, hA, hbb, ⟨rfl, h1⟩, hc⟩ := h.at hk
  have hc' := range_below hc hb hbb
  have h0 := hc' 0 _ rfl
  simp only [u16T, Ty.flat, Nat.mul_one, Nat.add_zero] at h0
  exact ⟨x, b, off, hx, hA, hbb, World.block_lt_of_cell? w' _ h0, h1, h0⟩
theorem made_one (z : Value) (hz : z.cells = #[z]) (k : Nat) : madeCells z.cells k = (List.replicate k z).toArray := by
  rw [hz]
  apply Array.ext
  · simp [madeCells]
  · intro i h1 h2
    simp [madeCells, Nat.mod_one]
theorem Fill.start {w : World} {g cap : Nat} {t : TypeId} {z : Value} (h : w.heap[g]? = some (.cells (Array.replicate cap z) t (0, 0))) : Fill w g t cap z [] := ⟨by simpa using h, by simp⟩
theorem info5 : (Tryd.prog.info? 5).map (fun i => (i.zero, i.size, i.bytes)) = some (some (.int .u8 0), 1, 1) := by kernel_rfl
theorem info40 : (Tryd.prog.info? 40).map (fun i => (i.zero, i.size, i.bytes)) = some (some (.int .u16 0), 1, 2) := by kernel_rfl
theorem make8 (c : Nat) (h : c ≤ 4096) : ∀ W : World, (Instr.makeSlice 30 (.int .i64 0) (.int .i64 (c : Int))).run Tryd.prog W = .ok (.slice (some ⟨W.heap.size, 0, none⟩) 0 c) (W.alloc (.cells (Array.replicate c (.int .u8 0)) 5)) := by
  intro W
  obtain ⟨i, hi, hz0, hz1, hz2⟩ := info_parts info5
  have hr := run_make (P := Tryd.prog) W 30 5 i _ Tryd.underlying30 hi hz0 .i64 .i64 0 c (Int.le_refl _) (by omega) (by rw [hz2]; omega) (by omega)
  rw [hr, hz1, made_one _ rfl]; simp
theorem make16 (c : Nat) (h : c ≤ 4096) : ∀ W : World, (Instr.makeSlice 24 (.int .i64 0) (.int .i64 (c : Int))).run Tryd.prog W = .ok (.slice (some ⟨W.heap.size, 0, none⟩) 0 c) (W.alloc (.cells (Array.replicate c (.int .u16 0)) 40)) := by
  intro W
  obtain ⟨i, hi, hz0, hz1, hz2⟩ := info_parts info40
  have hr := run_make (P := Tryd.prog) W 24 40 i _ Tryd.underlying24 hi hz0 .i64 .i64 0 c (Int.le_refl _) (by omega) (by rw [hz2]; omega) (by omega)
  rw [hr, hz1, made_one _ rfl]; simp

theorem u8C_head (n : Nat) : [Value.int .u8 ((2 + 2 * (n : Int)) % 256), Value.int .u8 3] = u8C [UInt8.ofNat (2 + 2 * n), 3] := by
  have e : ((UInt8.ofNat (2 + 2 * n)).toNat : Int) = (2 + 2 * (n : Int)) % 256 := by rw [UInt8.toNat_ofNat']; omega
  simp [u8C, e]
theorem u8C_pair {x : Nat} (h : x < 65536) : [Value.int .u8 ((x : Int) % 256), Value.int .u8 ((x : Int) / 256)] = u8C [UInt8.ofNat (x % 256), UInt8.ofNat (x / 256)] := by
  have e1 : ((UInt8.ofNat (x % 256)).toNat : Int) = (x : Int) % 256 := by rw [UInt8.toNat_ofNat']; omega
  have e2 : ((UInt8.ofNat (x / 256)).toNat : Int) = (x : Int) / 256 := by rw [UInt8.toNat_ofNat']; omega
  simp only [u8C, List.map_cons, List.map_nil, e1, e2]
theorem u8C_append (l m : List UInt8) : u8C (l ++ m) = u8C l ++ u8C m := by simp [u8C]
theorem u8C_len (l : List UInt8) : (u8C l).length = l.length := by simp [u8C]
theorem pairsL_take {us : List Nat} {k x : Nat} (h : us[k]? = some x) : pairsL (us.take (k + 1)) = pairsL (us.take k) ++ [UInt8.ofNat (x % 256), UInt8.ofNat (x / 256)] := by
  obtain ⟨hk, e⟩ := List.getElem?_eq_some_iff.1 h
  rw [List.take_succ_eq_append_getElem hk, pairsL_append, e, pairsL_cons]; rfl
set_option maxRecDepth 100000 in
set_option maxHeartbeats 1000000 in
theorem desc_any (A : Option Addr) (n c : Nat) (us : List Nat) (w : World) (hn : n ≤ 300) (hu : Sl u16T w (low w.heap.size) A n us) :
    Calls Tryd.prog 25 #[.slice A n c] w fun e w' => ∃ g, e = .returned (.slice (some ⟨g, 0, none⟩) (2 + 2 * n) (2 + 2 * n)) ∧ Fill w' g 5 (2 + 2 * n) (.int .u8 0) (u8C (toldL us)) ∧ w.heap.size ≤ g ∧ g < w'.heap.size ∧ Kept w w' := by
  obtain ⟨i5, hi5, hz50, hz51, hz52⟩ := info_parts info5
  have hmk := make8 (2 + 2 * n) (by omega)
  have hcast : ((2 + 2 * n : Nat) : Int) = 2 + 2 * (n : Int) := by omega
  rw [hcast] at hmk
  have hul := hu.1
  generalize hcap : 2 + 2 * n = cap at *
  have Hcap := hide hcap
  have hcap2 : 2 ≤ cap := by omega
  clear hcap
  go_enter Tryd.func25, Tryd.ntmps25
  go_upto_region 3 with (first
    | (at_builtin; refine wpList_append_fill rfl (.tmp 11) (.tmp 15) 30 rfl 5 i5 Tryd.underlying30 hi5 hz51 w.heap.size 0 cap (.int .u8 0) [] (by rfl) (Fill.start (heap_past (heap_at _ rfl))) rfl (w.heap.size + 1) 2 2 _ _ (by rfl) (heap_at _ (by simp)) (by rfl) (by simp [Value.oneCell']) (by simpa using hcap2) ?_; intro w1 hF1 hs1 ho1 hb1))
  have Hh := hide (u8C_head n)
  have Hul := hide hul
  clear hul hmk
  have hF2 : Fill w1 w.heap.size 5 cap (.int .u8 0) (u8C ([UInt8.ofNat (2 + 2 * n), 3] ++ pairsL (us.take 0))) := by
    rw [List.take_zero, u8C_append, ← Hh.out]; simpa [u8C, pairsL] using hF1
  have HF2 := hide hF2
  have hkw1 : Kept w w1 := hb1 w.heap.size w (Nat.le_refl _) (by go_grown)
  have hs1' : w.heap.size < w1.heap.size := by rw [hs1]; simp; omega
  clear hF1 hF2 hs1 ho1 hb1
  have hcap3 : cap ≤ 602 := by have := Hcap.out; omega
  go_wp2_with fail
  go_loopg [3, 19] n (fun gf s3 s19 wr => ∃ k : Nat, k + gf = n ∧ s19 = .int .i64 k ∧ s3 = .slice (some ⟨w.heap.size, 0, none⟩) (2 + 2 * k) cap ∧ Hid (Fill wr w.heap.size 5 cap (.int .u8 0) (u8C ([UInt8.ofNat (2 + 2 * n), 3] ++ pairsL (us.take k)))) ∧ Kept w wr ∧ w.heap.size < wr.heap.size)
  case atStart => exact ⟨0, by omega, rfl, rfl, HF2, hkw1, hs1'⟩
  case round =>
    clear HF2 hkw1 hs1'
    obtain ⟨k, hk, rfl, rfl, HF, hkw, hsz⟩ := hrel
    have Hk := hide hk
    have hkn : k ≤ n := by omega
    clear hk
    by_cases hlt : k < n
    · obtain ⟨x, b, off, hx, rfl, hbw, hbr, hx6, e0⟩ := u16_at hu hkw hlt
      obtain ⟨z, hz⟩ : ∃ z : Int, z = (x : Int) := ⟨_, rfl⟩
      rw [← hz] at e0
      have hz0 : 0 ≤ z := by omega
      have hz1 : z < 65536 := by omega
      have Hp := hide (u8C_pair hx6)
      have Hx := hide hx
      have Hz := hide hz
      clear hx hx6 hz
      have hlt' : (k : Int) < (n : Int) := by omega
      have hk0 : (0 : Int) ≤ (k : Int) := by omega
      have hlenk : (u8C ([UInt8.ofNat (2 + 2 * n), 3] ++ pairsL (us.take k))).length = 2 + 2 * k := by
        rw [u8C_len, List.length_append, pairsL_len, List.length_take, Hul.out, Nat.min_eq_left hkn]; rfl
      have Hlk := hide hlenk
      clear hlenk
      generalize hj : 2 + 2 * k = j at *
      have Hj := hide hj
      clear hj
      have hroom : j + 2 ≤ cap := by have := Hj.out; have := Hcap.out; omega
      go_wp2_with (at_builtin; refine wpList_append_fill rfl (.tmp 23) (.tmp 29) 30 rfl 5 i5 Tryd.underlying30 hi5 hz51 w.heap.size j cap (.int .u8 0) _ (by rfl) ⟨heap_past HF.out.1, HF.out.2⟩ Hlk.out.symm wr.heap.size 2 2 _ _ (by rfl) (heap_at _ rfl) (by rfl) (by simp [Value.oneCell']) (by rw [Hlk.out]; simpa using hroom) ?_; intro w4 hF4 hs4 ho4 hb4)
      go_roundg (gk - 1)
      case measure => have := Hk.out; omega
      case rel =>
        refine ⟨k + 1, by have := Hk.out; omega, by go_num, ?_, ?_, hb4 _ _ (Nat.le_refl _) (by go_grown), by rw [hs4]; simp; omega⟩
        · rw [← Hj.out, show 2 + 2 * (k + 1) = 2 + 2 * k + 2 by omega]
        · have e4 : u8C ([UInt8.ofNat (2 + 2 * n), 3] ++ pairsL (us.take (k + 1))) = u8C ([UInt8.ofNat (2 + 2 * n), 3] ++ pairsL (us.take k)) ++ [.int .u8 (z % 256), .int .u8 (z / 256)] := by
            rw [pairsL_take Hx.out, ← List.append_assoc, u8C_append, ← Hp.out, Hz.out]
          rw [e4]; exact hide hF4
    · have hkn' : k = n := by omega
      have hfin : u8C ([UInt8.ofNat (2 + 2 * n), 3] ++ pairsL (us.take k)) = u8C (toldL us) := by
        rw [hkn', ← Hul.out, List.take_length, Hul.out]
        unfold toldL; rw [Hul.out]
      have HF5 : Hid (Fill wr w.heap.size 5 cap (.int .u8 0) (u8C (toldL us))) := by rw [← hfin]; exact HF
      have Hkc : Hid (2 + 2 * k = cap) := by have := Hcap.out; rw [hkn']; exact this
      clear hfin hkn'
      have hlt' : (n : Int) ≤ (k : Int) := by omega
      go_wp2_with fail
      go_ret
      exact ⟨w.heap.size, by first | (rw [Hkc.out]; done) | (rw [Hkc.out]; rfl), HF5.out, Nat.le_refl _, hsz, hkw⟩
end Go.Proofs.YtokijdgakphfiaaDoor
