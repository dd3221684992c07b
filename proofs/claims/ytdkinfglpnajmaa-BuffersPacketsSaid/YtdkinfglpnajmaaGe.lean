
/- The law's lists: Of. -/
import Derived.Test.YtdkinfglpnajmaaChecked
import Derived.Deep.RegionHeld3
import Derived.Deep.DrawnRows
import Derived.Deep.DeepCutAuto
import Derived.Deep.LoopGhost
import Derived.Outline
import Derived.Handy
import Derived.OwnWalk
import Derived.IntWalk
import Derived.Test.YtdkinfglpnajmaaGd
set_option linter.unusedVariables false
set_option linter.unusedSimpArgs false
set_option linter.unusedSectionVars false
namespace Go.Proofs.Ytdkinfglpnajmaa
open Go.RowKit
attribute [local go_sem ↓] Go.wp_at_zero Go.wp_at_succ

/-- a piece as plain data -/
def ppT : Ty (UInt8 × UInt8) := Ty.flat 2 (fun p : UInt8 × UInt8 => [.int .u8 (p.1.toNat : Int), .int .u8 (p.2.toNat : Int)]) (fun _ => True) (fun _ => rfl)
theorem pp_at {w w' : World} {B n k : Nat} {A : Option Addr} {l : List (UInt8 × UInt8)} (h : Sl ppT w (low B) A n l) (hb : Below B w w') (hk : k < n) : ∃ p b off, l[k]? = some p ∧ A = some ⟨b, off, none⟩ ∧ b < B ∧ b < w'.heap.size ∧
    w'.cell? ⟨b, off + k * 2, none⟩ = some (.int .u8 (p.1.toNat : Int)) ∧ w'.cell? ⟨b, off + k * 2 + 1, none⟩ = some (.int .u8 (p.2.toNat : Int)) := by
  obtain ⟨p, b, off, cs, hx, hA, hbb, ⟨rfl, _⟩, hc⟩ := h.at hk
  have hc' := range_below hc hb hbb
  have h0 := hc' 0 _ rfl
  have h1 := hc' 1 _ rfl
  simp only [ppT, Ty.flat, Nat.add_zero] at h0 h1
  exact ⟨p, b, off, hx, hA, hbb, World.block_lt_of_cell? w' _ h0, h0, h1⟩
def ofP (p : UInt8 × UInt8) : Pc := ⟨(p.1.toNat : Int) % 65, (p.2.toNat : Int) % (65 - (p.1.toNat : Int) % 65)⟩
def ofL (l : List (UInt8 × UInt8)) : List Pc := (l.take 20).map ofP
theorem ofP_bd (p : UInt8 × UInt8) : 0 ≤ (ofP p).pos ∧ (ofP p).pos ≤ 64 ∧ 0 ≤ (ofP p).len ∧ (ofP p).pos + (ofP p).len ≤ 64 := by
  unfold ofP
  have h1 := Int.emod_nonneg (p.1.toNat : Int) (show (65 : Int) ≠ 0 by omega)
  have h2 := Int.emod_lt_of_pos (p.1.toNat : Int) (show (0 : Int) < 65 by omega)
  simp only
  generalize (p.1.toNat : Int) % 65 = a at *
  have h3 := Int.emod_nonneg (p.2.toNat : Int) (show (65 - a : Int) ≠ 0 by omega)
  have h4 := Int.emod_lt_of_pos (p.2.toNat : Int) (show (0 : Int) < 65 - a by omega)
  omega
theorem ofL_bd {l : List (UInt8 × UInt8)} : ∀ p ∈ ofL l, 0 ≤ p.pos ∧ p.pos ≤ 64 ∧ 0 ≤ p.len ∧ p.pos + p.len ≤ 64 := fun p hp => by
  obtain ⟨q, _, rfl⟩ := List.mem_map.1 hp
  exact ofP_bd q
theorem ofL_len (l : List (UInt8 × UInt8)) : (ofL l).length ≤ 20 := by simp [ofL]; omega
theorem ofL_ok (l : List (UInt8 × UInt8)) : okL (ofL l) := fun p hp => ⟨(ofL_bd p hp).1, (ofL_bd p hp).2.2.1⟩
theorem total_le : ∀ {l : List Pc} {m : Int}, (∀ p ∈ l, p.len ≤ m) → total l ≤ m * l.length
  | [], m, _ => by simp [total]
  | p :: r, m, h => by
    have h1 := h p List.mem_cons_self
    have h2 := total_le (l := r) (m := m) (fun q hq => h q (List.mem_cons_of_mem _ hq))
    rw [total_cons, List.length_cons]
    push_cast
    rw [Int.mul_add]
    omega
theorem ofL_total (l : List (UInt8 × UInt8)) : total (ofL l) ≤ 1280 := by
  have h1 := total_le (l := ofL l) (m := 64) (fun p hp => by have := ofL_bd p hp; omega)
  have h2 := ofL_len l
  omega
theorem ofL_chk (l : List (UInt8 × UInt8)) {size : Int} (h : 64 ≤ size) : chk (ofL l) size = 0 :=
  chk_ok (by have := ofL_len l; omega) (fun p hp => by have := ofL_bd p hp; omega) (by have := ofL_total l; omega)
theorem info44 : (Try.prog.info? 44).map (fun i => (i.zero, i.size, i.bytes)) = some (some (.agg #[.int .i64 0, .int .i64 0]), 2, 16) := by kernel_rfl
theorem of_take {l : List (UInt8 × UInt8)} {k : Nat} {p : UInt8 × UInt8} (h : l[k]? = some p) : (l.take (k + 1)).map ofP = (l.take k).map ofP ++ [ofP p] := map_take_succ h
set_option maxRecDepth 100000 in
set_option maxHeartbeats 2000000 in
theorem of_any (A : Option Addr) (n c : Nat) (l : List (UInt8 × UInt8)) (w : World) (hl : Sl ppT w (low w.heap.size) A n l) (hnc : n ≤ c) (hc : c ≤ maxLen) :
    Calls Try.prog 10 #[.slice A n c] w fun e w' => ∃ v m, e = .returned v ∧ Own pcT 44 w.heap.size w' v m (ofL l) ∧ Kept w w' := by
  have hln := Lib.hid hl.1
  obtain ⟨i44, hi44, hz0, hz1, hz2⟩ := info_parts info44
  unfold maxLen at hc
  go_enter Try.func10, Try.ntmps10
  go_wp2_with fail
  go_loopg [3, 4] (min n 20) (fun g s3 s4 wr => ∃ k m : Nat, k + g = min n 20 ∧ s4 = .int .i64 (k : Int) ∧ Own pcT 44 w.heap.size wr s3 m ((l.take k).map ofP) ∧ m = k ∧ Kept w wr)
  case atStart => exact ⟨0, 0, by omega, by rfl, Own.nil _ _ _ _, rfl, Below.refl _ _⟩
  case round =>
    obtain ⟨k, m, hk, rfl, hown, rfl, hkw⟩ := hrel
    have hsz := hkw.size
    by_cases hlt : m < min n 20
    · obtain ⟨p, b, off, hx, rfl, hbb, hbw, c0, c1⟩ := pp_at hl hkw (show m < n by omega)
      have htk := Lib.hid (of_take hx)
      have hlt1 : (m : Int) < (n : Int) := by omega
      have hlt2 : (m : Int) < 20 := by omega
      have hb0 := p.1.toNat_lt
      have hb1 := p.2.toNat_lt
      have e1 := Lib.hid (show (ofP p).pos = (p.1.toNat : Int) % 65 from rfl)
      have e2 := Lib.hid (show (ofP p).len = (p.2.toNat : Int) % (65 - (p.1.toNat : Int) % 65) from rfl)
      have hp := ofP_bd p
      obtain ⟨y1, y2, y3, y4⟩ := hp
      have z0 : (0 : Int) ≤ (p.1.toNat : Int) := by omega
      have z1 : (p.1.toNat : Int) < 256 := by omega
      have z2 : (0 : Int) ≤ (p.2.toNat : Int) := by omega
      have z3 : (p.2.toNat : Int) < 256 := by omega
      clear hx
      go_wp2_with (at_builtin; refine wpList_append_el (T := pcT) rfl (.tmp 23) (.tmp 35) 25 rfl w.heap.size 44 i44 _ 16 Try.underlying25 hi44 hz0 hz1 hz2 rfl (by decide) u3 m _ (by rfl) (hown.alloc _) _ _ _ (ofP p) (by rfl) (heap_alloc_new wr _) ⟨rfl, trivial⟩ (by simp [Value.oneCell']) (by unfold maxLen; omega) (by omega) (by simp only [World.size_alloc]; omega) ?_; intro g4 cap4 w4 hown4 hg4 hb4 hat4 hlt4)
      go_roundg (gk - 1)
      case measure => omega
      case rel => exact ⟨m + 1, m + 1, by omega, by go_num, by rw [htk.out]; exact hown4, rfl, (hkw.alloc hkw.size _).trans hb4⟩
    · have hmn : m = min n 20 := by omega
      have hall : (l.take m).map ofP = ofL l := by
        unfold ofL
        congr 1
        rw [hmn]
        by_cases h20 : n ≤ 20
        · rw [List.take_of_length_le (by have := hln.out; omega), List.take_of_length_le (by have := hln.out; omega)]
        · rw [show min n 20 = 20 by omega]
      rw [hall] at hown
      clear hall
      by_cases h20 : n ≤ m
      · have hlt1 : (n : Int) ≤ (m : Int) := by omega
        clear hmn
        go_wp2_with fail
        go_ret
        exact ⟨_, m, rfl, hown, hkw⟩
      · have hlt1 : (m : Int) < (n : Int) := by omega
        have hlt2 : (20 : Int) ≤ (m : Int) := by omega
        clear hmn
        go_wp2_with fail
        go_ret
        exact ⟨_, m, rfl, hown, hkw⟩
end Go.Proofs.Ytdkinfglpnajmaa
