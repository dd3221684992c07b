

/- CommandsDecode: IDENTIFY. -/
import Derived.Test.YtfojemocffelhaaDoorChecked
import Derived.Deep.RegionHeld3
import Derived.Deep.DrawnRows
import Derived.Deep.DeepCutAuto
import Derived.Deep.LoopGhost
import Derived.Outline
import Derived.Handy
import Derived.OwnWalk
import Derived.Test.YtfojemocffelhaaDoorLj
set_option linter.unusedVariables false
set_option linter.unusedSimpArgs false
set_option linter.unusedSectionVars false
namespace Go.Proofs.YtfojemocffelhaaDoor
open Go.RowKit
attribute [local go_sem ↓] Go.wp_at_zero Go.wp_at_succ

set_option maxRecDepth 100000 in
set_option maxHeartbeats 2000000 in
theorem jd_18_ne (g0 off n cp : Nat) (bs : List UInt8) (w : World) (hT : Tabs w) (hlen : bs.length = n) (hn : 6 ≤ n) (hn16 : n ≤ 16) (hcp : n ≤ cp) (hB : Bs w g0 off bs) (z0 : w.cell? ⟨g0, off, none⟩ = some (.int .u8 18))
    (l : Int) (hl0 : 0 ≤ l) (hl1 : l < 256) (z4 : w.cell? ⟨g0, off + 4, none⟩ = some (.int .u8 l)) (h13 : ∀ w, Calls Tryd.prog 13 #[.agg #[.int .u8 18, .int .u32 0, .int .u16 0, .int .i64 l]] w fun e w' => e = .returned (.bool true) ∧ Kept w w') (out : List UInt8) (hout : out.length = 6) (h19 : ∀ w, Calls Tryd.prog 19 #[.agg #[.int .u8 18, .int .u32 0, .int .u16 0, .int .i64 l]] w fun e w' => ∃ g, e = .returned (.slice (some ⟨g, 0, none⟩) 6 6) ∧ w.heap.size ≤ g ∧ w'.heap[g]? = some (.cells (u8C out).toArray 5 (0, 0)) ∧ Kept w w') (hd : out ≠ bs.take 6) (hdec : Calls Tryd.prog 20 #[.slice (some ⟨g0, off, none⟩) n cp] w fun e w' => e = .returned (.tuple #[.agg #[.int .u8 0, .int .u32 0, .int .u16 0, .int .i64 0], .int .i64 4]) ∧ Kept w w') : Calls Tryd.prog 6 #[.slice (some ⟨g0, off, none⟩) n cp] w fun e w' => e = .returned (.bool true) ∧ Kept w w' := by
  have hn0 : (0 : Int) < (n : Int) := by omega
  have hn40 : (n : Int) ≤ 40 := by omega
  have hn4 : (4 : Int) < (n : Int) := by omega
  have hnw : (6 : Int) ≤ (n : Int) := by omega
  have hnw2 : (n : Int) ≤ 16 := by omega
  have hcw : (6 : Int) ≤ (cp : Int) := by omega
  have hb := hB.1
  have htk : (bs.take 6).length = 6 := by rw [List.length_take]; omega
  have hB := hide hB
  have hlen := hide hlen
  have hwl := wl_of hl0 hl1
  go_enter Tryd.func6, Tryd.ntmps6
  go_upto_region 26 with (go_at_call 20; refine hdec.mono ?_; rintro e w1 ⟨rfl, hk1⟩; obtain ⟨hc1, hf1⟩ := bcell hk1; have hs1 := hk1.size; have hT1 := hT.kept hk1; have hne1 : g0 ≠ w1.heap.size := (by omega); have hne2 : g0 ≠ w1.heap.size + 1 := (by omega); have hlt1 : g0 < w1.heap.size := (by omega))
  refine wp_name (B := w.heap.size) (w0 := w) (by go_grown) (fun W3 hcW3 hfW3 hz3 hkW3 => ?_)
  try simp only [World.size_alloc, World.size_setCell, World.size_drew] at hz3
  have hkeep : ∀ w', Below W3.heap.size W3 w' → ((convert 32 9 (.slice (some ⟨g0, off, none⟩) 6 cp)).run Tryd.prog w' = .ok (.string ⟨(bs.take 6).toArray⟩) w') := fun w' hk => ((hB.out.kept (hkW3.trans (hk.mono hkW3.size))).take 6).conv 6 cp htk
  have HK := hide hkeep
  clear hkeep
  have hcv : ∀ (w : World) (g : Nat), w.heap[g]? = some (.cells (u8C out).toArray 5 (0, 0)) → (convert 32 9 (.slice (some ⟨g, 0, none⟩) 6 6)).run Tryd.prog w = .ok (.string ⟨out.toArray⟩) w := fun w g h => (Bs.of_heap h).conv 6 6 hout
  have HCV := hide hcv
  clear hcv htk hout
  have hq : ((⟨out.toArray⟩ : ByteArray).toList == (⟨(bs.take 6).toArray⟩ : ByteArray).toList) = false := by
    simp only [ByteArray.toList_eq, beq_eq_false_iff_ne]
    exact hd
  clear hd
  generalize (⟨out.toArray⟩ : ByteArray) = T1 at *
  generalize (⟨(bs.take 6).toArray⟩ : ByteArray) = T2 at *
  have q9 := HK.out _ (since_start (W := W3)).2
  go_cut [7] (fun s7 wc => s7 = .bool false ∧ Below W3.heap.size W3 wc)
  case first =>
    go_region_with (first
      | (go_at_call 13; (with_reducible refine (h13 _).mono ?_); rintro e w5 ⟨rfl, hk⟩; obtain ⟨hc5, _⟩ := bcellD hk; have k3 : Below W3.heap.size W3 w5 := (Below.refl _ _).drew.trans hk; have q5 := HK.out _ k3; have hs5 : W3.heap.size ≤ w5.heap.size := hk.size)
      | (go_at_call 19; (with_reducible refine (h19 _).mono ?_); rintro e w6 ⟨g5, rfl, hg5, hr5, hk⟩; have hcv5 := HCV.out _ _ hr5; have k6 := k3.trans (hk.mono hs5); have q6 := HK.out _ k6))
    all_goals (go_wp2_with fail; go_meet; exact ⟨rfl, k6⟩)
  case rest =>
  obtain ⟨rfl, hkc⟩ := hcut
  have hk5 : Kept w wc := hkW3.trans (hkc.mono hkW3.size)
  obtain ⟨hc5, hf5⟩ := bcell hkc
  have hs5 : W3.heap.size ≤ wc.heap.size := hkc.size
  clear q9
  go_wp2_with fail
  clear HK HCV hq h19 h13
  go_loopg [7, 8] (n - 6) (fun g s7 s8 wr => ∃ j : Nat, j + g = n ∧ 6 ≤ j ∧ s8 = .int .i64 j ∧ s7 = .bool false ∧ wr = wc)
  case atStart => exact ⟨6, by omega, by omega, by rfl, by rfl, rfl⟩
  case round =>
    obtain ⟨j, hj, hj2, rfl, rfl, rfl⟩ := hrel
    by_cases hjn : j < n
    · have hjn' : (j : Int) < (n : Int) := by omega
      go_wp2_with fail
      go_roundg (gk - 1)
      case measure => omega
      case rel => exact ⟨j + 1, by omega, by omega, by go_num, by rfl, rfl⟩
    · have hjn' : (n : Int) ≤ (j : Int) := by omega
      go_wp2_with (go_at_call 14; refine (lives_any _ (by exact hT.kept (by go_grown))).mono ?_; rintro e w9 ⟨rfl, hk9⟩; have hkw9 : Kept w w9 := Below.trans (by go_grown) (hk9.mono (by (try simp) <;> omega)))
      go_ret
      exact ⟨rfl, hkw9⟩
set_option maxRecDepth 100000 in
set_option maxHeartbeats 2000000 in
theorem jd_18_tail (g0 off n cp : Nat) (bs : List UInt8) (w : World) (hT : Tabs w) (hlen : bs.length = n) (hn : 6 ≤ n) (hn16 : n ≤ 16) (hcp : n ≤ cp) (hB : Bs w g0 off bs) (z0 : w.cell? ⟨g0, off, none⟩ = some (.int .u8 18))
    (l : Int) (hl0 : 0 ≤ l) (hl1 : l < 256) (z4 : w.cell? ⟨g0, off + 4, none⟩ = some (.int .u8 l)) (h13 : ∀ w, Calls Tryd.prog 13 #[.agg #[.int .u8 18, .int .u32 0, .int .u16 0, .int .i64 l]] w fun e w' => e = .returned (.bool true) ∧ Kept w w') (out : List UInt8) (hout : out.length = 6) (h19 : ∀ w, Calls Tryd.prog 19 #[.agg #[.int .u8 18, .int .u32 0, .int .u16 0, .int .i64 l]] w fun e w' => ∃ g, e = .returned (.slice (some ⟨g, 0, none⟩) 6 6) ∧ w.heap.size ≤ g ∧ w'.heap[g]? = some (.cells (u8C out).toArray 5 (0, 0)) ∧ Kept w w') (hd : out = bs.take 6) (hz : (bs.drop 6).all (· == 0) = false) (hdec : Calls Tryd.prog 20 #[.slice (some ⟨g0, off, none⟩) n cp] w fun e w' => e = .returned (.tuple #[.agg #[.int .u8 0, .int .u32 0, .int .u16 0, .int .i64 0], .int .i64 4]) ∧ Kept w w') : Calls Tryd.prog 6 #[.slice (some ⟨g0, off, none⟩) n cp] w fun e w' => e = .returned (.bool true) ∧ Kept w w' := by
  have hn0 : (0 : Int) < (n : Int) := by omega
  have hn40 : (n : Int) ≤ 40 := by omega
  have hn4 : (4 : Int) < (n : Int) := by omega
  have hnw : (6 : Int) ≤ (n : Int) := by omega
  have hnw2 : (n : Int) ≤ 16 := by omega
  have hcw : (6 : Int) ≤ (cp : Int) := by omega
  have hb := hB.1
  have htk : (bs.take 6).length = 6 := by rw [List.length_take]; omega
  have hB := hide hB
  have hlen := hide hlen
  have hwl := wl_of hl0 hl1
  go_enter Tryd.func6, Tryd.ntmps6
  go_upto_region 26 with (go_at_call 20; refine hdec.mono ?_; rintro e w1 ⟨rfl, hk1⟩; obtain ⟨hc1, hf1⟩ := bcell hk1; have hs1 := hk1.size; have hT1 := hT.kept hk1; have hne1 : g0 ≠ w1.heap.size := (by omega); have hne2 : g0 ≠ w1.heap.size + 1 := (by omega); have hlt1 : g0 < w1.heap.size := (by omega))
  refine wp_name (B := w.heap.size) (w0 := w) (by go_grown) (fun W3 hcW3 hfW3 hz3 hkW3 => ?_)
  try simp only [World.size_alloc, World.size_setCell, World.size_drew] at hz3
  have hkeep : ∀ w', Below W3.heap.size W3 w' → ((convert 32 9 (.slice (some ⟨g0, off, none⟩) 6 cp)).run Tryd.prog w' = .ok (.string ⟨(bs.take 6).toArray⟩) w') := fun w' hk => ((hB.out.kept (hkW3.trans (hk.mono hkW3.size))).take 6).conv 6 cp htk
  have HK := hide hkeep
  clear hkeep
  have hcv : ∀ (w : World) (g : Nat), w.heap[g]? = some (.cells (u8C out).toArray 5 (0, 0)) → (convert 32 9 (.slice (some ⟨g, 0, none⟩) 6 6)).run Tryd.prog w = .ok (.string ⟨out.toArray⟩) w := fun w g h => (Bs.of_heap h).conv 6 6 hout
  have HCV := hide hcv
  clear hcv htk hout
  have hd' : (⟨out.toArray⟩ : ByteArray) = ⟨(bs.take 6).toArray⟩ := by rw [hd]
  rw [hd'] at HCV
  clear hd hd'
  generalize (⟨(bs.take 6).toArray⟩ : ByteArray) = T1 at *
  have q9 := HK.out _ (since_start (W := W3)).2
  go_cut [7] (fun s7 wc => s7 = .bool true ∧ Below W3.heap.size W3 wc)
  case first =>
    go_region_with (first
      | (go_at_call 13; (with_reducible refine (h13 _).mono ?_); rintro e w5 ⟨rfl, hk⟩; obtain ⟨hc5, _⟩ := bcellD hk; have k3 : Below W3.heap.size W3 w5 := (Below.refl _ _).drew.trans hk; have q5 := HK.out _ k3; have hs5 : W3.heap.size ≤ w5.heap.size := hk.size)
      | (go_at_call 19; (with_reducible refine (h19 _).mono ?_); rintro e w6 ⟨g5, rfl, hg5, hr5, hk⟩; have hcv5 := HCV.out _ _ hr5; have k6 := k3.trans (hk.mono hs5); have q6 := HK.out _ k6))
    all_goals (go_wp2_with fail; go_meet; exact ⟨rfl, k6⟩)
  case rest =>
  obtain ⟨rfl, hkc⟩ := hcut
  have hk5 : Kept w wc := hkW3.trans (hkc.mono hkW3.size)
  obtain ⟨hc5, hf5⟩ := bcell hkc
  have hs5 : W3.heap.size ≤ wc.heap.size := hkc.size
  clear q9
  go_wp2_with fail
  clear HK HCV h19 h13
  have hst := zUp_start bs 6
  have hen : zUp bs 6 n = false := by rw [← hlen.out, zUp_end]; exact hz
  have hen := hide hen
  have hst := hide hst
  clear hz
  go_loopg [7, 8] (n - 6) (fun g s7 s8 wr => ∃ j : Nat, j + g = n ∧ 6 ≤ j ∧ s8 = .int .i64 j ∧ s7 = .bool (zUp bs 6 j) ∧ wr = wc)
  case atStart => exact ⟨6, by omega, by omega, by rfl, by rw [hst.out], rfl⟩
  case round =>
    obtain ⟨j, hj, hj2, rfl, rfl, rfl⟩ := hrel
    by_cases hjn : j < n
    · have hjn' : (j : Int) < (n : Int) := by omega
      obtain ⟨x, hx⟩ : ∃ x, bs[j]? = some x := ⟨_, List.getElem?_eq_getElem (by rw [hlen.out]; exact hjn)⟩
      have hcell := (hB.out.kept hk5).2 j x hx
      have hs := hide (zUp_succ hx hj2)
      clear hx
      cases hz : zUp bs 6 j with
      | false =>
        have hz := hide hz
        go_wp2_with fail
        go_roundg (gk - 1)
        case measure => omega
        case rel => exact ⟨j + 1, by omega, by omega, by go_num, by rw [hs.out, hz.out]; rfl, rfl⟩
      | true =>
        have hz := hide hz
        have hbz := hide (beqz x)
        go_wp2_with fail
        go_roundg (gk - 1)
        case measure => omega
        case rel => exact ⟨j + 1, by omega, by omega, by go_num, by rw [hs.out, hz.out, ← hbz.out]; rfl, rfl⟩
    · have hjn' : (n : Int) ≤ (j : Int) := by omega
      obtain rfl : j = n := by omega
      rw [hen.out]
      go_wp2_with (go_at_call 14; refine (lives_any _ (by exact hT.kept (by go_grown))).mono ?_; rintro e w9 ⟨rfl, hk9⟩; have hkw9 : Kept w w9 := Below.trans (by go_grown) (hk9.mono (by (try simp) <;> omega)))
      go_ret
      exact ⟨rfl, hkw9⟩
set_option maxRecDepth 100000 in
set_option maxHeartbeats 2000000 in
theorem jd_18_ok (g0 off n cp : Nat) (bs : List UInt8) (w : World) (hT : Tabs w) (hlen : bs.length = n) (hn : 6 ≤ n) (hn16 : n ≤ 16) (hcp : n ≤ cp) (hB : Bs w g0 off bs) (z0 : w.cell? ⟨g0, off, none⟩ = some (.int .u8 18))
    (l : Int) (hl0 : 0 ≤ l) (hl1 : l < 256) (z4 : w.cell? ⟨g0, off + 4, none⟩ = some (.int .u8 l)) (h13 : ∀ w, Calls Tryd.prog 13 #[.agg #[.int .u8 18, .int .u32 0, .int .u16 0, .int .i64 l]] w fun e w' => e = .returned (.bool true) ∧ Kept w w') (out : List UInt8) (hout : out.length = 6) (h19 : ∀ w, Calls Tryd.prog 19 #[.agg #[.int .u8 18, .int .u32 0, .int .u16 0, .int .i64 l]] w fun e w' => ∃ g, e = .returned (.slice (some ⟨g, 0, none⟩) 6 6) ∧ w.heap.size ≤ g ∧ w'.heap[g]? = some (.cells (u8C out).toArray 5 (0, 0)) ∧ Kept w w') (hd : out = bs.take 6) (hz : (bs.drop 6).all (· == 0) = true) (hdec : Calls Tryd.prog 20 #[.slice (some ⟨g0, off, none⟩) n cp] w fun e w' => e = .returned (.tuple #[.agg #[.int .u8 18, .int .u32 0, .int .u16 0, .int .i64 l], .int .i64 0]) ∧ Kept w w') : Calls Tryd.prog 6 #[.slice (some ⟨g0, off, none⟩) n cp] w fun e w' => e = .returned (.bool true) ∧ Kept w w' := by
  have hn0 : (0 : Int) < (n : Int) := by omega
  have hn40 : (n : Int) ≤ 40 := by omega
  have hn4 : (4 : Int) < (n : Int) := by omega
  have hnw : (6 : Int) ≤ (n : Int) := by omega
  have hnw2 : (n : Int) ≤ 16 := by omega
  have hcw : (6 : Int) ≤ (cp : Int) := by omega
  have hb := hB.1
  have htk : (bs.take 6).length = 6 := by rw [List.length_take]; omega
  have hB := hide hB
  have hlen := hide hlen
  have hwl := wl_of hl0 hl1
  go_enter Tryd.func6, Tryd.ntmps6
  go_upto_region 26 with (go_at_call 20; refine hdec.mono ?_; rintro e w1 ⟨rfl, hk1⟩; obtain ⟨hc1, hf1⟩ := bcell hk1; have hs1 := hk1.size; have hT1 := hT.kept hk1; have hne1 : g0 ≠ w1.heap.size := (by omega); have hne2 : g0 ≠ w1.heap.size + 1 := (by omega); have hlt1 : g0 < w1.heap.size := (by omega))
  refine wp_name (B := w.heap.size) (w0 := w) (by go_grown) (fun W3 hcW3 hfW3 hz3 hkW3 => ?_)
  try simp only [World.size_alloc, World.size_setCell, World.size_drew] at hz3
  have hkeep : ∀ w', Below W3.heap.size W3 w' → ((convert 32 9 (.slice (some ⟨g0, off, none⟩) 6 cp)).run Tryd.prog w' = .ok (.string ⟨(bs.take 6).toArray⟩) w') := fun w' hk => ((hB.out.kept (hkW3.trans (hk.mono hkW3.size))).take 6).conv 6 cp htk
  have HK := hide hkeep
  clear hkeep
  have hcv : ∀ (w : World) (g : Nat), w.heap[g]? = some (.cells (u8C out).toArray 5 (0, 0)) → (convert 32 9 (.slice (some ⟨g, 0, none⟩) 6 6)).run Tryd.prog w = .ok (.string ⟨out.toArray⟩) w := fun w g h => (Bs.of_heap h).conv 6 6 hout
  have HCV := hide hcv
  clear hcv htk hout
  have hd' : (⟨out.toArray⟩ : ByteArray) = ⟨(bs.take 6).toArray⟩ := by rw [hd]
  rw [hd'] at HCV
  clear hd hd'
  generalize (⟨(bs.take 6).toArray⟩ : ByteArray) = T1 at *
  have q9 := HK.out _ (since_start (W := W3)).2
  go_cut [7] (fun s7 wc => s7 = .bool true ∧ Below W3.heap.size W3 wc)
  case first =>
    go_region_with (first
      | (go_at_call 13; (with_reducible refine (h13 _).mono ?_); rintro e w5 ⟨rfl, hk⟩; obtain ⟨hc5, _⟩ := bcellD hk; have k3 : Below W3.heap.size W3 w5 := (Below.refl _ _).drew.trans hk; have q5 := HK.out _ k3; have hs5 : W3.heap.size ≤ w5.heap.size := hk.size)
      | (go_at_call 19; (with_reducible refine (h19 _).mono ?_); rintro e w6 ⟨g5, rfl, hg5, hr5, hk⟩; have hcv5 := HCV.out _ _ hr5; have k6 := k3.trans (hk.mono hs5); have q6 := HK.out _ k6))
    all_goals (go_wp2_with fail; go_meet; exact ⟨rfl, k6⟩)
  case rest =>
  obtain ⟨rfl, hkc⟩ := hcut
  have hk5 : Kept w wc := hkW3.trans (hkc.mono hkW3.size)
  obtain ⟨hc5, hf5⟩ := bcell hkc
  have hs5 : W3.heap.size ≤ wc.heap.size := hkc.size
  clear q9
  go_wp2_with fail
  clear HK HCV h19 h13
  have hst := zUp_start bs 6
  have hen : zUp bs 6 n = true := by rw [← hlen.out, zUp_end]; exact hz
  have hen := hide hen
  have hst := hide hst
  clear hz
  go_loopg [7, 8] (n - 6) (fun g s7 s8 wr => ∃ j : Nat, j + g = n ∧ 6 ≤ j ∧ s8 = .int .i64 j ∧ s7 = .bool (zUp bs 6 j) ∧ wr = wc)
  case atStart => exact ⟨6, by omega, by omega, by rfl, by rw [hst.out], rfl⟩
  case round =>
    obtain ⟨j, hj, hj2, rfl, rfl, rfl⟩ := hrel
    by_cases hjn : j < n
    · have hjn' : (j : Int) < (n : Int) := by omega
      obtain ⟨x, hx⟩ : ∃ x, bs[j]? = some x := ⟨_, List.getElem?_eq_getElem (by rw [hlen.out]; exact hjn)⟩
      have hcell := (hB.out.kept hk5).2 j x hx
      have hs := hide (zUp_succ hx hj2)
      clear hx
      cases hz : zUp bs 6 j with
      | false =>
        have hz := hide hz
        go_wp2_with fail
        go_roundg (gk - 1)
        case measure => omega
        case rel => exact ⟨j + 1, by omega, by omega, by go_num, by rw [hs.out, hz.out]; rfl, rfl⟩
      | true =>
        have hz := hide hz
        have hbz := hide (beqz x)
        go_wp2_with fail
        go_roundg (gk - 1)
        case measure => omega
        case rel => exact ⟨j + 1, by omega, by omega, by go_num, by rw [hs.out, hz.out, ← hbz.out]; rfl, rfl⟩
    · have hjn' : (n : Int) ≤ (j : Int) := by omega
      obtain rfl : j = n := by omega
      rw [hen.out]
      go_wp2_with (go_at_call 14; refine (lives_any _ (by exact hT.kept (by go_grown))).mono ?_; rintro e w9 ⟨rfl, hk9⟩; have hkw9 : Kept w w9 := Below.trans (by go_grown) (hk9.mono (by (try simp) <;> omega)))
      go_ret
      exact ⟨rfl, hkw9⟩
end Go.Proofs.YtfojemocffelhaaDoor
