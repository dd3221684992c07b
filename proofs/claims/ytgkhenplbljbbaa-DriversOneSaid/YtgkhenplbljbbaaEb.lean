
/- The device of plain data, with its configurations. The plain data reads as rows of bytes. -/
import Derived.Test.YtgkhenplbljbbaaChecked
import Derived.Deep.RegionHeld3
import Derived.Deep.DrawnRows
import Derived.Deep.DeepCutAuto
import Derived.Deep.LoopGhost
import Derived.Outline
import Derived.Handy
import Derived.Deep.RegionLaw
import Derived.Test.YtgkhenplbljbbaaWb
import Derived.Test.YtgkhenplbljbbaaLf
import Derived.Test.YtgkhenplbljbbaaEa
import Derived.Test.YtgkhenplbljbbaaPd
set_option linter.unusedVariables false
set_option linter.unusedSimpArgs false
set_option linter.unusedSectionVars false
namespace Go.Proofs.Ytgkhenplbljbbaa
open Go.RowKit
attribute [local go_sem ↓] Go.wp_at_zero Go.wp_at_succ

theorem info101 : (Try.prog.info? 101).map (fun i => (i.zero, i.size, i.bytes)) = some (some (.agg #[.slice none 0 0]), 1, 24) := by kernel_rfl
theorem info104 : (Try.prog.info? 104).map (fun i => (i.zero, i.size, i.bytes)) = some (some (.agg #[.int .u8 0, .int .u8 0, .int .u8 0, .int .u8 0, .int .u8 0, .int .u8 0, .int .u8 0, .slice none 0 0, .slice none 0 0]), 9, 56) := by kernel_rfl
theorem info96 : (Try.prog.info? 96).map (fun i => (i.zero, i.size, i.bytes)) = some (some (.agg #[.int .u16 0, .int .u8 0, .int .u8 0, .int .u8 0, .bool false, .bool false, .int .u8 0, .slice none 0 0]), 8, 32) := by kernel_rfl

theorem cp_at {w w' : World} {B n k : Nat} {A : Option Addr} {l : List Cp} (h : Sl cpT w (low B) A n l) (hb : Below B w w') (hk : k < n) : ∃ d b off A' c', l[k]? = some d ∧ A = some ⟨b, off, none⟩ ∧ b < B ∧ b < w'.heap.size ∧ d.ifs.length ≤ c' ∧ c' ≤ maxLen ∧ u8ok d.power ∧
    w'.cell? ⟨b, off + k * 2, none⟩ = some (.int .u8 d.power) ∧ w'.cell? ⟨b, off + k * 2 + 1, none⟩ = some (.slice A' d.ifs.length c') ∧ Sl u8T w (low B) A' d.ifs.length d.ifs := by
  obtain ⟨d, b, off, cs, hx, hA, hbb, ⟨A', c', rfl, h1, h2, h3, hs⟩, hc⟩ := h.at hk
  have hc' := range_below hc hb hbb
  exact ⟨d, b, off, A', c', hx, hA, hbb, World.block_lt_of_cell? w' _ (hc' 0 _ rfl), h1, h2, h3, hc' 0 _ rfl, hc' 1 _ rfl, hs⟩
theorem u8_at {w w' : World} {B n k : Nat} {A : Option Addr} {l : List Int} (h : Sl u8T w (low B) A n l) (hb : Below B w w') (hk : k < n) : ∃ x b off, l[k]? = some x ∧ A = some ⟨b, off, none⟩ ∧ b < B ∧ b < w'.heap.size ∧ u8ok x ∧
    w'.cell? ⟨b, off + k, none⟩ = some (.int .u8 x) := by
  obtain ⟨x, b, off, cs, hx, hA, hbb, ⟨rfl, h1⟩, hc⟩ := h.at hk
  have hc' := range_below hc hb hbb
  have h0 := hc' 0 _ rfl
  simp only [u8T, Ty.flat, Nat.mul_one, Nat.add_zero] at h0
  exact ⟨x, b, off, hx, hA, hbb, World.block_lt_of_cell? w' _ h0, h1, h0⟩

theorem face_imp (n : Int) (w : World) :
    Calls Try.prog 12 #[.int .u8 n] w fun e w' => 0 ≤ n → n < 256 → e = .returned (.agg #[.int .u8 0, .int .u8 0, .int .u8 0, .int .u8 (3 + n % 3), .int .u8 (n / 3 % 3), .int .u8 (n / 9 % 3), .int .u8 0]) ∧ Kept w w' := by
  by_cases h : 0 ≤ n ∧ n < 256
  · exact (face_any n w h.1 h.2).mono fun e w' h _ _ => h
  · go_enter Try.func12, Try.ntmps12
    go_wp2
    go_returns
    exact fun h0 h1 => absurd ⟨h0, h1⟩ h
theorem alt_one (x : Int) : ∀ u ∈ altCells x, u.oneCell' = true := by simp [altCells, Value.oneCell']
theorem alt2 {W : World} {gb : Nat} {t : TypeId} {F : Nat → Prop} (y z : Int) (h : W.heap[gb]? = some (.cells (altCells y ++ altCells z).toArray t (0, 0))) (hF : F gb) : Sl altT W F (some ⟨gb, 0, none⟩) 2 [y, z] := by
  have hy : W.rangeAt gb 0 (altCells y) := fun j v hv => by
    rw [cell_of_row _ _ _ _ _ _ h, Nat.zero_add, List.getElem?_toArray, List.getElem?_append_left (List.getElem?_eq_some_iff.1 hv).1]; exact hv
  have hz : W.rangeAt gb 9 (altCells z) := fun j v hv => by
    rw [cell_of_row _ _ _ _ _ _ h, List.getElem?_toArray, List.getElem?_append_right (show (altCells y).length ≤ 9 + j by show 9 ≤ 9 + j; omega), show 9 + j - (altCells y).length = j by show 9 + j - 9 = j; omega]; exact hv
  exact Sl.cons hF ⟨rfl, trivial⟩ hy (Sl.one hF ⟨rfl, trivial⟩ (by simpa [altT, Ty.flat] using hz))

set_option maxRecDepth 100000 in
set_option maxHeartbeats 4000000 in
/-- the device of plain data -/
theorem fof_new (ids a : Int) (A : Option Addr) (n c : Nat) (x : List Cp) (w : World) (h0 : 0 ≤ ids) (h1 : ids < 256) (hn : n ≤ maxLen) (hx : Sl cpT w (low w.heap.size) A n x) :
    Calls Try.prog 10 #[.agg #[.int .u8 ids, .slice A n c], .int .u8 a] w fun e w' => ∃ A' c', e = .returned (.agg #[.int .u8 (a), .slice none 0 0, .int .u8 0, .int .u8 0, .int .u8 0, .int .u16 0, .int .u8 0, .int .u8 0, .int .u8 0, .int .u8 0, .int .u16 (venOf ids), .int .u16 (proOf ids), .int .u16 0, .int .u8 0, .int .u8 0, .int .u8 0, .int .u8 0, .slice A' (cfsOf x).length c']) ∧ (cfsOf x).length ≤ c' ∧ c' ≤ maxLen ∧ Sl cfT w' (fun b => w.heap.size ≤ b ∧ b < w'.heap.size) A' (cfsOf x).length (cfsOf x) ∧ Kept w w' := by
  unfold maxLen at hn
  obtain ⟨i1, hi1, hz10, hz11, hz12⟩ := info_parts info101
  obtain ⟨i4, hi4, hz40, hz41, hz42⟩ := info_parts info104
  obtain ⟨i9, hi9, hz90, hz91, hz92⟩ := info_parts info96
  have hll := hide hx.1
  go_enter Try.func10, Try.ntmps10
  go_wp2_with (first
    | (refine wpList_store_row rfl 34 (.tmp 5) (.tmp 24) rfl _ _ (by rfl) (by rfl) 34 _ (by repeat' first | exact heap_at _ (by first | rfl | (simp; done) | (simp; omega)) | exact heap_row (by assumption) | assumption | refine heap_past ?_ | refine heap_drew ?_) (by kernel_rfl) (by rfl) (by simp [Value.oneCell']) ?_))
  refine wp_at (fun W => Kept w W ∧ W.heap[w.heap.size]? = some (.cells #[.int .u8 ids, .slice A n c] 37 (0, 0)) ∧
    W.heap[w.heap.size + 1]? = some (.cells #[.int .u8 (0), .slice none 0 0, .int .u8 0, .int .u8 0, .int .u8 0, .int .u16 0, .int .u8 0, .int .u8 0, .int .u8 0, .int .u8 0, .int .u16 (0), .int .u16 (0), .int .u16 0, .int .u8 0, .int .u8 0, .int .u8 0, .int .u8 0, .slice none 0 0] 34 (0, 0)) ∧ W.heap[w.heap.size + 1 + 1]? = some (.cells #[.int .u8 (a), .slice none 0 0, .int .u8 0, .int .u8 0, .int .u8 0, .int .u16 0, .int .u8 0, .int .u8 0, .int .u8 0, .int .u8 0, .int .u16 (venOf ids), .int .u16 (proOf ids), .int .u16 0, .int .u8 0, .int .u8 0, .int .u8 0, .int .u8 0, .slice none 0 0] 34 (0, 0))) ?_ (fun W hW => ?_)
  · refine ⟨?_, ?_, ?_, ?_⟩
    · exact below_row (by go_grown) (by omega) _
    · exact heap_row_other (by omega) (heap_past (heap_past (heap_at _ rfl)))
    · exact heap_row_other (by omega) (heap_past (heap_at _ (by simp)))
    · exact heap_row (heap_at _ (by simp))
  obtain ⟨hkW, hB, hZ, hF⟩ := hW
  go_loopg [6] 4 (fun g s6 wr => ∃ i : Nat, i + g = 4 ∧ i ≤ n ∧ s6 = .int .i64 i ∧ ∃ Av cv, wr.heap[w.heap.size]? = some (.cells #[.int .u8 ids, .slice A n c] 37 (0, 0)) ∧
    wr.heap[w.heap.size + 1]? = some (.cells #[.int .u8 (0), .slice none 0 0, .int .u8 0, .int .u8 0, .int .u8 0, .int .u16 0, .int .u8 0, .int .u8 0, .int .u8 0, .int .u8 0, .int .u16 (0), .int .u16 (0), .int .u16 0, .int .u8 0, .int .u8 0, .int .u8 0, .int .u8 0, .slice none 0 0] 34 (0, 0)) ∧ wr.heap[w.heap.size + 1 + 1]? = some (.cells #[.int .u8 (a), .slice none 0 0, .int .u8 0, .int .u8 0, .int .u8 0, .int .u16 0, .int .u8 0, .int .u8 0, .int .u8 0, .int .u8 0, .int .u16 (venOf ids), .int .u16 (proOf ids), .int .u16 0, .int .u8 0, .int .u8 0, .int .u8 0, .int .u8 0, .slice Av i cv] 34 (0, 0)) ∧
    Own (cfT.from (w.heap.size + 1 + 1 + 1)) 96 (w.heap.size + 1 + 1 + 1) wr (.slice Av i cv) i ((x.take i).mapIdx cfOf) ∧ Kept w wr)
  case atStart => exact ⟨0, by omega, by omega, rfl, none, 0, hB, hZ, hF, Own.nil _ _ _ _, hkW⟩
  case round =>
    clear hB hZ hF
    obtain ⟨i, hi, hin, rfl, Av, cv, hB, hZ, hF, hown, hkw⟩ := hrel
    have Hi := hide hi
    have hi4' : i ≤ 4 := by omega
    clear hi
    have b0 := cell_heap hB (o := 0) rfl
    have b1 := cell_heap hB (o := 1) rfl
    have hbl := heap_lt hB
    have hfl := heap_lt hF
    have f17 := cell_heap hF (o := 17) rfl
    have g17 := frozen_heap hF (o := 17)
    by_cases hlt : i < n ∧ i < 4
    · obtain ⟨hlt, hlt4⟩ := hlt
      have hlt' : (i : Int) < (n : Int) := by omega
      have hlt4' : (i : Int) < 4 := by omega
      have hi0 : (0 : Int) ≤ (i : Int) := by omega
      obtain ⟨row, b, off, A', c', hrow, rfl, hbw, hbr, hc1, hc2, hpow, e0, e1, hrs⟩ := cp_at hx hkw hlt
      have Hrow := hide hrow
      have Hpow := hide hpow
      clear hrow hpow
      unfold maxLen at hc2
      have E0 := hide e0
      have E1 := hide e1
      have HB := hide hB
      have HZ := hide hZ
      have HF := hide hF
      have Hown := hide hown
      clear hB hZ hF hown
      go_wp2_with fail
      obtain ⟨wo, rfl⟩ : ∃ wo : World, wo = wr := ⟨_, rfl⟩
      obtain ⟨go, rfl⟩ : ∃ g : Nat, g = gk := ⟨_, rfl⟩
      go_loopg [8] 5 (fun g s8 wi => ∃ j : Nat, j + g = 5 ∧ j ≤ row.ifs.length ∧ s8 = .int .i64 j ∧ ∃ A2 c2, wi.heap[wo.heap.size]? = some (.cells #[.int .u16 0, .int .u8 0, .int .u8 ((i:Int)+1), .int .u8 0, .bool false, .bool false, .int .u8 (row.power), .slice A2 j c2] 96 (0, 0)) ∧
        Own (ifT.from (wo.heap.size + 1)) 101 (wo.heap.size + 1) wi (.slice A2 j c2) j ((row.ifs.take j).map altsOf) ∧ Kept wo wi)
      case atStart => exact ⟨0, by omega, by omega, rfl, none, 0, by first | exact heap_at _ rfl | exact heap_store (heap_store (heap_at _ rfl) _) _, Own.nil _ _ _ _, by go_grown⟩
      case round =>
        clear b0 b1 f17 g17 e0 e1 hbr hbl hfl
        obtain ⟨j, hj, hjr, rfl, A2, c2, hC, hown2, hko⟩ := hrel
        have Hj := hide hj
        have hj5 : j ≤ 5 := by omega
        clear hj
        have hkr : Kept w wr := hkw.trans (hko.mono hkw.size)
        have b0 := cell_heap (heap_kept hko HB.out) (o := 0) rfl
        have b1 := cell_heap (heap_kept hko HB.out) (o := 1) rfl
        have hbl := heap_lt (heap_kept hko HB.out)
        have hfl := heap_lt (heap_kept hko HF.out)
        have c7 := cell_heap hC (o := 7) rfl
        have k7 := frozen_heap hC (o := 7)
        have hcl := heap_lt hC
        have hbr : b < wr.heap.size := Nat.lt_of_lt_of_le hbw hkr.size
        have e0 : wr.cell? ⟨b, off + i * 2, none⟩ = some (.int .u8 row.power) := (hko.cell (p := ⟨b, off + i * 2, none⟩) (Nat.lt_of_lt_of_le hbw hkw.size)).trans E0.out
        have e1 : wr.cell? ⟨b, off + i * 2 + 1, none⟩ = some (.slice A' row.ifs.length c') := (hko.cell (p := ⟨b, off + i * 2 + 1, none⟩) (Nat.lt_of_lt_of_le hbw hkw.size)).trans E1.out
        by_cases hlt2 : j < row.ifs.length ∧ j < 5
        · obtain ⟨hjt, hjt5⟩ := hlt2
          obtain ⟨y, b', off', hy, rfl, hbw', hbr', hyk, e2⟩ := u8_at hrs hkr hjt
          obtain ⟨hy0, hy1⟩ := hyk
          have Hy := hide hy
          clear hy
          have hjt' : (j : Int) < (row.ifs.length : Int) := by omega
          have hjt5' : (j : Int) < 5 := by omega
          have hj0 : (0 : Int) ≤ (j : Int) := by omega
          go_upto_if 74 with (fail)
          go_cut [10] (fun s10 wc => ∃ Y A3 m3 c3, s10 = .pointer (some ⟨Y, 0, none⟩) ∧ wc.cell? ⟨Y, 0, none⟩ = some (.slice A3 m3 c3) ∧ m3 = (altsOf y).length ∧ m3 ≤ c3 ∧ c3 ≤ maxLen ∧ Y < wc.heap.size ∧ wr.heap.size ≤ Y ∧
            Sl altT wc (fun b => wr.heap.size ≤ b ∧ b < wc.heap.size) A3 m3 (altsOf y) ∧ Kept wr wc)
          case first =>
            by_cases hy255 : y = 255
            · have hal : altsOf y = [] := by simp [altsOf, hy255]
              have Hal := hide hal
              clear hal
              go_wp2_with fail
              go_meet
              refine ⟨_, none, 0, 0, rfl, by go_simp, by rw [Hal.out]; rfl, Nat.le_refl _, by decide, by simp, by simp, by rw [Hal.out]; exact Sl.nil _ _ _ _, by go_grown⟩
            · have hal : altsOf y = [y, y + 1] := by simp [altsOf, hy255]
              have Hal := hide hal
              clear hal
              go_wp2_with fail
              have hyw : IntKind.u8.wrap (y + 1) = y + 1 := by rw [IntKind.wrap_u8]; omega
              refine wp_at (fun W => Kept wr W ∧ W.cell? ⟨wr.heap.size, 0, none⟩ = some (.slice none 0 0) ∧ W.frozen? ⟨wr.heap.size, 0, none⟩ = false ∧ wr.heap.size < W.heap.size) ⟨by go_grown, by go_simp, by go_simp, by simp⟩ (fun W hW => ?_)
              obtain ⟨hkW2, hY, hYf, hsW⟩ := hW
              go_region_law (first
                | (go_simp; go_at_call 12; refine (face_imp _ _).mono ?_; rintro e w1 hh; obtain ⟨rfl, hk⟩ := hh (by omega) (by omega); have hq := bcell hk; (try simp only [Go.heap_drew] at hq); obtain ⟨hcq, hfq⟩ := hq; have hs1 : wr.heap.size < w1.heap.size := Nat.lt_of_lt_of_le (by first | exact hs1 | exact hsW) hk.size; have hkc : Kept wr w1 := (by first | exact hkc.trans' hk | exact hkW2.trans' (of_drew hk)); dsimp only)
                | (refine step_append_sl (T := altT) rfl (.tmp 76) (.tmp 84) 99 rfl _ 104 i4 _ 56 Try.underlying99 hi4 hz40 hz41 hz42 rfl (by decide) (.slice none 0 0) 0 [] (by rfl) (Own.nil _ _ _ _) (some ⟨_, 0, none⟩) 2 2 [y, y + 1] (by rfl) (alt2 y (y + 1) (heap_alloc_new _ _) ⟨by simp, by simp [Value.ownBlock]⟩) (by rintro d cs ⟨rfl, _⟩; exact alt_one d) (by unfold maxLen; omega) (by omega) (Nat.le_refl _) ?_; intro v4 w4 hown4 hg4 hb4 hat4; obtain ⟨A3, c3, rfl, hl3, hm3⟩ := hown4.isSlice; obtain ⟨hcz, hfz⟩ := bcell hb4; have hs2 : wr.heap.size < w1.heap.size + 1 := (by omega); have hk4 : Kept wr w4 := Below.trans (hkc.alloc (by omega) _) (hb4.mono (by simp only [World.size_alloc]; omega))))
              all_goals go_wp2_with fail
              all_goals
                go_meet
                have hsl := hown4.sl_of (fun b => wr.heap.size < b ∧ b < w4.heap.size) (fun g h1 h2 => ⟨by simp at h1; omega, h2⟩) (fun _ _ h => h)
                have hs4 := hb4.size
                have hkz : Kept wr (w4.setCell ⟨wr.heap.size, 0, none⟩ (.slice A3 (0 + 2) c3)) := hk4.setCell (Nat.le_refl _) _
                refine ⟨_, A3, 0 + 2, c3, rfl, by go_simp, by rw [Hal.out]; rfl, hl3, hm3, by simp; simp at hs4; omega, Nat.le_refl _, ?_, hkz⟩
                rw [Hal.out]
                refine hsl.keep (fun b hb => ⟨Nat.le_of_lt hb.1, by simpa using hb.2⟩) (fun b o hb => World.cell?_setCell_other _ _ _ _ (fun e => ?_))
                have := congrArg Addr.block e
                simp only at this
                omega
          case rest =>
            obtain ⟨Y, A3, m3, c3, rfl, hY, hm3, hl3, hc3, hY1, hY2, hsl3, hkc⟩ := hcut
            have Hm3 := hide hm3
            clear hm3
            have HC := hide (heap_kept hkc hC)
            have Hown2 := hide (hown2.kept hkc)
            have hown2k := hown2
            have hcr1 := hcl
            clear hC hown2 c7 k7 hcl b0 b1 hbl hfl e0 e1 e2 hbr hbr'
            have hcl : wo.heap.size < wc.heap.size := heap_lt HC.out
            have c7 := cell_heap HC.out (o := 7) rfl
            have k7 := frozen_heap HC.out (o := 7)
            have hw3 : w.heap.size + 1 + 1 + 1 ≤ wo.heap.size := by have := heap_lt HF.out; omega
            have Hrel : Hid ((ifT.from (wo.heap.size + 1)).rel (wc.alloc (.cells #[.slice A3 m3 c3] 101)) (apart (wc.alloc (.cells #[.slice A3 m3 c3] 101)) (.slice A2 j c2)) (altsOf y) [.slice A3 m3 c3]) := by
              refine ⟨A3, c3, by rw [← Hm3.out], by rw [← Hm3.out]; exact hl3, hc3, ?_⟩
              rw [← Hm3.out]
              refine hsl3.keep (fun b hb => ⟨⟨by simp; omega, fun e => ?_⟩, by have := hko.size; omega⟩) (fun b o hb => World.cell?_alloc_lt _ _ _ hb.2)
              have h5 := (hown2k.lt e).2
              omega
            have hjn : (i : Int) < (n : Int) := hlt'
            go_wp2_with (at_builtin; refine wpList_append_el (T := ifT.from (wo.heap.size + 1)) rfl (.tmp 88) (.tmp 90) 94 rfl (wo.heap.size + 1) 101 i1 _ 24 Try.underlying94 hi1 hz10 hz11 hz12 rfl (by show 0 < 1; decide) (.slice A2 j c2) j _ (by rfl) (Hown2.out.alloc _) _ _ _ (altsOf y) (by rfl) (heap_alloc_new wc _) Hrel.out (by simp [Value.oneCell']) (by unfold maxLen; omega) (by omega) (by have := hkc.size; have := hko.size; simp only [World.size_alloc]; omega) ?_; intro g4 cap w4 hown4 hg4 hb4 hat4 hlt4; obtain ⟨hcz, hfz⟩ := bcell hb4)
            go_roundg (gk - 1)
            case measure => have := Hj.out; omega
            case rel =>
              have e5 : (row.ifs.take (j + 1)).map altsOf = (row.ifs.take j).map altsOf ++ [altsOf y] := map_take_succ Hy.out
              have hk4 : Kept wo w4 := Below.trans ((hko.trans' hkc).alloc (by have := (hko.trans' hkc).size; omega) _) (hb4.mono (by omega))
              refine ⟨j + 1, by have := Hj.out; omega, by omega, by go_num, some ⟨g4, 0, none⟩, cap, ?_, ?_, hk4.setCell (Nat.le_refl _) _⟩
              · exact heap_store (i := 7) (heap_below hb4 (heap_past HC.out) (by omega)) (.slice (some ⟨g4, 0, none⟩) (j + 1) cap)
              · rw [e5]; exact hown4.setCellF (by show wo.heap.size < wo.heap.size + 1; omega) (by show wo.heap.size < wo.heap.size + 1; omega) _
        · have hjm : (row.ifs.take j).map altsOf = (cfOf i row).ifs := by
            show _ = (row.ifs.take 5).map altsOf
            by_cases h : j < row.ifs.length
            · rw [show j = 5 by omega]
            · rw [List.take_of_length_le (by omega), List.take_of_length_le (by omega)]
          have Hjm := hide hjm
          have Hjl : Hid ((cfOf i row).ifs.length = j) := by rw [← hjm]; exact hown2.1
          clear hjm
          have hgk : row.ifs.length ≤ j ∨ (j = 5 ∧ j < row.ifs.length) := by omega
          have hown5 := hide (hown2.alloc (.cells #[.int .u16 0, .int .u8 0, .int .u8 ((i:Int)+1), .int .u8 0, .bool false, .bool false, .int .u8 (row.power), .slice A2 j c2] 96))
          have Hrel : Hid ((cfT.from (w.heap.size + 1 + 1 + 1)).rel (wr.alloc (.cells #[.int .u16 0, .int .u8 0, .int .u8 ((i:Int)+1), .int .u8 0, .bool false, .bool false, .int .u8 (row.power), .slice A2 j c2] 96)) (apart (wr.alloc (.cells #[.int .u16 0, .int .u8 0, .int .u8 ((i:Int)+1), .int .u8 0, .bool false, .bool false, .int .u8 (row.power), .slice A2 j c2] 96)) (.slice Av i cv)) (cfOf i row) [.int .u16 0, .int .u8 0, .int .u8 ((i : Int) + 1), .int .u8 0, .bool false, .bool false, .int .u8 row.power, .slice A2 j c2]) := by
            obtain ⟨A9, c9, e9, h91, h92⟩ := hown2.isSlice
            injection e9 with e91 _ e93
            subst e91 e93
            have hw3 : w.heap.size + 1 + 1 + 1 ≤ wo.heap.size := by have := heap_lt HF.out; omega
            refine ⟨A2, c2, by rw [Hjl.out]; rfl, by rw [Hjl.out]; exact h91, h92, by rw [Hjl.out]; exact hj5, Hpow.out, ?_⟩
            rw [Hjl.out, ← Hjm.out]
            refine hown5.out.slF _ (fun g h1 h2 => ⟨⟨h2, fun e => ?_⟩, by omega⟩) (fun g h1 h2 => ⟨⟨h2, fun e => ?_⟩, by omega⟩)
            · have := (Hown.out.lt e).2; omega
            · have := (Hown.out.lt e).2; omega
          have Hmi : Hid ((x.take (i + 1)).mapIdx cfOf = (x.take i).mapIdx cfOf ++ [cfOf i row]) := mapIdx_take_succ Hrow.out
          have c0 := cell_heap hC (o := 0) rfl
          have c1 := cell_heap hC (o := 1) rfl
          have c2' := cell_heap hC (o := 2) rfl
          have c3 := cell_heap hC (o := 3) rfl
          have c4 := cell_heap hC (o := 4) rfl
          have c5 := cell_heap hC (o := 5) rfl
          have c6 := cell_heap hC (o := 6) rfl
          have f17 := cell_heap (heap_kept hko HF.out) (o := 17) rfl
          have g17 := frozen_heap (heap_kept hko HF.out) (o := 17)
          have HF2 := hide (heap_kept hko HF.out)
          have HB2 := hide (heap_kept hko HB.out)
          have HZ2 := hide (heap_kept hko HZ.out)
          have Hown3 := hide (Hown.out.kept hko)
          have hbase : w.heap.size + 1 + 1 + 1 ≤ wr.heap.size := by have := heap_lt HF.out; have := hko.size; omega
          clear hC hown2
          by_cases hjt : j < row.ifs.length
          all_goals
            (try have hjt5' : (5 : Int) ≤ (j : Int) := by omega)
            go_wp2_with (at_builtin; refine wpList_append_el (T := cfT.from (w.heap.size + 1 + 1 + 1)) rfl (.tmp 94) (.tmp 96) 32 rfl (w.heap.size + 1 + 1 + 1) 96 i9 _ 32 Try.underlying32 hi9 hz90 hz91 hz92 rfl (by show 0 < 8; decide) (.slice Av i cv) i _ (by rfl) (Hown3.out.alloc _) _ _ _ (cfOf i row) (by rfl) (heap_alloc_new wr _) Hrel.out (by simp [Value.oneCell']) (by unfold maxLen; omega) (by omega) (by simp only [World.size_alloc]; omega) ?_; intro g4 cap w4 hown4 hg4 hb4 hat4 hlt4; obtain ⟨hcz, hfz⟩ := bcell hb4)
            go_roundg (go - 1)
            case measure => have := Hi.out; omega
            case rel =>
              have hk4 : Kept w w4 := Below.trans (hkr.alloc hkr.size _) (hb4.mono (by omega))
              refine ⟨i + 1, by have := Hi.out; omega, by omega, by go_num, some ⟨g4, 0, none⟩, cap, ?_, ?_, ?_, ?_, hk4.setCell (by show w.heap.size ≤ w.heap.size + 1 + 1; omega) _⟩
              · exact heap_other (heap_below hb4 (heap_past HB2.out) (by omega)) (by show w.heap.size ≠ w.heap.size + 1 + 1; omega)
              · exact heap_other (heap_below hb4 (heap_past HZ2.out) (by omega)) (by show w.heap.size + 1 ≠ w.heap.size + 1 + 1; omega)
              · exact heap_store (i := 17) (heap_below hb4 (heap_past HF2.out) (by omega)) (.slice (some ⟨g4, 0, none⟩) (i + 1) cap)
              · rw [Hmi.out]; exact hown4.setCellF (by show w.heap.size + 1 + 1 < w.heap.size + 1 + 1 + 1; omega) (by show w.heap.size + 1 + 1 < w.heap.size + 1 + 1 + 1; omega) _
    · have hfin : (x.take i).mapIdx cfOf = cfsOf x := by
        unfold cfsOf
        by_cases h : i < n
        · rw [show i = 4 by omega]
        · rw [List.take_of_length_le (by have := hll.out; omega), List.take_of_length_le (by have := hll.out; omega)]
      rw [hfin] at hown
      clear hfin
      have Hlen : Hid ((cfsOf x).length = i) := hown.1
      have HF := hide hF
      have HZ := hide hZ
      obtain ⟨A9, c9, e9, h91, h92⟩ := hown.isSlice
      injection e9 with e91 _ e93
      subst e91 e93
      have hsl := hide (hown.slF (fun b => w.heap.size + 1 + 1 + 1 ≤ b ∧ b < wr.heap.size) (fun g h h' => ⟨h, h'⟩) (fun g h h' => ⟨h, h'⟩))
      have hkw1 := hkw
      clear hF hZ hB hown
      by_cases h : i < n
      all_goals
        (try have h4' : (4 : Int) ≤ (i : Int) := by omega)
        go_wp2_with (first
          | (refine wpList_load_row rfl 34 (.tmp 5) rfl (w.heap.size + 1 + 1) (by rfl) 34 _ (0, 0) _ HF.out Try.underlying34 rfl (by kernel_rfl) ?_)
          | (refine wpList_store_row rfl 34 (.tmp 4) (.tmp 99) rfl (w.heap.size + 1) _ (by rfl) (by rfl) 34 _ HZ.out (by kernel_rfl) (by rfl) (by simp [Value.oneCell']) ?_))
        refine bodyPost_ret (v := .agg #[.int .u8 (a), .slice none 0 0, .int .u8 0, .int .u8 0, .int .u8 0, .int .u16 0, .int .u8 0, .int .u8 0, .int .u8 0, .int .u8 0, .int .u16 (venOf ids), .int .u16 (proOf ids), .int .u16 0, .int .u8 0, .int .u8 0, .int .u8 0, .int .u8 0, .slice Av i cv]) ?_ rfl ⟨Av, cv, by rw [Hlen.out], by rw [Hlen.out]; exact h91, h92, ?_, below_row hkw (by omega) _⟩
        · exact results_cell_row (P := Try.prog) rfl _ _ (w.heap.size + 1) 34 _ (0, 0) _ (by rfl) (heap_row HZ.out) Try.underlying34 rfl (by kernel_rfl)
        · rw [Hlen.out]
          exact hsl.out.keep (fun b hb => ⟨by have := hb.1; omega, by rw [size_setRow]; exact hb.2⟩) (fun b o hb => World.cell?_of_block (a := ⟨b, o, none⟩) (by
            have := hb.1
            simp [World.setRow, Array.getElem?_modify, show w.heap.size + 1 ≠ b by omega]))
theorem fof_any (ids a : Int) (A : Option Addr) (n c : Nat) (x : List Cp) (w : World) (h0 : 0 ≤ ids) (h1 : ids < 256) (hn : n ≤ maxLen) (hx : Sl cpT w (low w.heap.size) A n x) :
    Calls Try.prog 10 #[.agg #[.int .u8 ids, .slice A n c], .int .u8 a] w fun e w' => ∃ A' c', e = .returned (.agg #[.int .u8 (a), .slice none 0 0, .int .u8 0, .int .u8 0, .int .u8 0, .int .u16 0, .int .u8 0, .int .u8 0, .int .u8 0, .int .u8 0, .int .u16 (venOf ids), .int .u16 (proOf ids), .int .u16 0, .int .u8 0, .int .u8 0, .int .u8 0, .int .u8 0, .slice A' (cfsOf x).length c']) ∧ (cfsOf x).length ≤ c' ∧ c' ≤ maxLen ∧ Sl cfT w' (low w'.heap.size) A' (cfsOf x).length (cfsOf x) ∧ Kept w w' := by
  refine (fof_new ids a A n c x w h0 h1 hn hx).mono ?_
  rintro e w' ⟨A', c', h2, h3, h4, h5, h6⟩
  exact ⟨A', c', h2, h3, h4, h5.keep (fun b hb => hb.2) (fun _ _ _ => rfl), h6⟩
end Go.Proofs.Ytgkhenplbljbbaa
