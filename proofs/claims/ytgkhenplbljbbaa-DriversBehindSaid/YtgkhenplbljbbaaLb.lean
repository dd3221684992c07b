
/- The walk of DriversBehind. The plain data reads as rows of bytes, the number is a byte. -/
import Derived.Test.YtgkhenplbljbbaaChecked
import Derived.Deep.RegionHeld3
import Derived.Deep.DrawnRows
import Derived.Deep.DeepCutAuto
import Derived.Deep.LoopGhost
import Derived.Outline
import Derived.Handy
import Derived.Deep.RegionLaw
import Derived.Test.YtgkhenplbljbbaaPc
import Derived.Test.YtgkhenplbljbbaaDe
import Derived.Test.YtgkhenplbljbbaaWi
namespace Go.Proofs.Ytgkhenplbljbbaa
open Go.RowKit
attribute [local go_sem ↓] Go.wp_at_zero Go.wp_at_succ

/-- the variables d and last of the law -/
def Lst (w1 W : World) (rs : List Rule) : Prop := ∃ v2, W.cell? ⟨w1.heap.size + 1, 0, none⟩ = some (.string ⟨#[76, 65, 83, 84]⟩) ∧ W.cell? ⟨w1.heap.size + 1, 1, none⟩ = some v2 ∧
  W.frozen? ⟨w1.heap.size + 1, 0, none⟩ = false ∧ W.frozen? ⟨w1.heap.size + 1, 1, none⟩ = false ∧
  (∀ o, W.cell? ⟨w1.heap.size, o, none⟩ = (#[.int .u16 0, .int .u8 0, .int .u8 0, .int .u8 0, .int .u8 0, .int .u16 4660, .int .u16 7, .int .u16 0, .int .u8 0, .int .u8 0, .int .u8 0, .int .u8 0] : Array Value)[o]?) ∧
  Own ruleT 43 (w1.heap.size + 1 + 1) W v2 rs.length rs ∧ Kept w1 W ∧ w1.heap.size + 1 < W.heap.size
theorem Lst.kept {w1 W W' : World} {rs : List Rule} (h : Lst w1 W rs) (hk : Kept W W') : Lst w1 W' rs := by
  obtain ⟨v2, h0, h1, h2, h3, h4, h5, h6, h7⟩ := h
  have hs := hk.size
  exact ⟨v2, (hk.cell (p := ⟨w1.heap.size + 1, 0, none⟩) h7).trans h0, (hk.cell (p := ⟨w1.heap.size + 1, 1, none⟩) h7).trans h1, (hk.frozen (p := ⟨w1.heap.size + 1, 0, none⟩) h7).trans h2,
    (hk.frozen (p := ⟨w1.heap.size + 1, 1, none⟩) h7).trans h3, fun o => (hk.cell (p := ⟨w1.heap.size, o, none⟩) (by show w1.heap.size < _; omega)).trans (h4 o), h5.kept hk, h6.trans' hk, by omega⟩
def scB (f : Int) (r : Rule) : Int := r.score 4660 7 (3 + f % 3) (f / 3 % 3) (f / 9 % 3)

set_option maxRecDepth 100000 in
set_option maxHeartbeats 2000000 in
theorem dbehind_walk (A : Option Addr) (n c : Nat) (x : List (List Rp)) (B : Option Addr) (m cm : Nat) (y : List Rp) (f : Int) (w : World) (hn : n ≤ maxLen) (hx : Sl rpT.slice w (low w.heap.size) A n x) (hok : rowsOk x)
    (hm : m ≤ maxLen) (hy : Sl rpT w (low w.heap.size) B m y) (hf : u8ok f) :
    Calls Try.prog 5 #[.slice A n c, .slice B m cm, .int .u8 f] w fun e w' => e = .returned (.bool true) ∧ Kept w w' := by
  obtain ⟨hf0, hf1⟩ := hf
  unfold maxLen at hm
  have hrl := dOf_rules hok
  have hlen := dOf_len x
  generalize hl : dOf x = l at *
  have Hl := hide hl
  clear hl
  obtain ⟨i3, hi3, hz30, hz31, hz32⟩ := info_parts info43
  obtain ⟨i1, hi1, hz10, hz11, hz12⟩ := info_parts info41
  by_cases hm4 : 4 < m
  · have hm4' : (4 : Int) < (m : Int) := by omega
    go_enter Try.func5, Try.ntmps5
    go_wp2_with (first
      | (go_at_call 9; refine (dof_any _ _ _ _ _ hn hx).mono ?_; rw [Hl.out]; rintro e w1 ⟨v, rfl, hown, hk1⟩; obtain ⟨Av, cv, rfl, hv1, hv2⟩ := hown.isSlice)
      | (go_at_call 17; refine (lives_any _).mono ?_; rintro e w8 ⟨rfl, hk8⟩))
    go_ret
    exact ⟨rfl, hk1.trans' hk8⟩
  · have hm4' : (m : Int) ≤ 4 := by omega
    go_enter Try.func5, Try.ntmps5
    go_wp2_with (first
      | (go_at_call 9; refine (dof_any _ _ _ _ _ hn hx).mono ?_; rw [Hl.out]; rintro e w1 ⟨v, rfl, hown, hk1⟩; obtain ⟨Av, cv, rfl, hv1, hv2⟩ := hown.isSlice))
    go_loopg [10, 11] m (fun g s10 s11 wr => ∃ i : Nat, i + g = m ∧ s11 = .int .i64 i ∧ s10 = .int .i64 (mostTo (scB f) (y.map Rp.rule) i) ∧ Lst w1 wr ((y.take i).map Rp.rule))
    case atStart =>
      refine ⟨0, by omega, rfl, rfl, .slice none 0 0, by go_simp, by go_simp, by go_simp, by go_simp, ?_, Own.nil _ _ _ _, by go_grown, by simp⟩
      intro o; exact cell_of_row _ _ _ _ 31 (0, 0) (heap_past (heap_at _ rfl))
    case round =>
      obtain ⟨i, hi, rfl, rfl, HL⟩ := hrel
      have Hi := hide hi
      clear hi
      generalize hmo : mostTo (scB f) (y.map Rp.rule) i = mo
      have Hmo := hide hmo
      clear hmo
      by_cases hlt : i < m
      · obtain ⟨r, b', off', hr, rfl, hbw', _, hok', e0, e1, e2, e3⟩ := rp_at hy (Below.refl _ _) hlt
        have Hr := hide hr
        clear hr
        have hrok : (rofR r.use r.ids r.cls r.oth).ok := r.rule_ok hok'
        have hrok0 : 0 ≤ (rofR r.use r.ids r.cls r.oth).use := hrok.1
        have hrok1 : (rofR r.use r.ids r.cls r.oth).use < 256 := hrok.2
        clear hrok
        obtain ⟨⟨ok0, ok1⟩, ⟨ok2, ok3⟩, ⟨ok4, ok5⟩, ok6, ok7⟩ := hok'
        have hlt' : (i : Int) < (m : Int) := by omega
        have hi0 : (0 : Int) ≤ (i : Int) := by omega
        have hlen2 : ((y.take i).map Rp.rule).length = i := by
          have := hy.1
          rw [List.length_map, List.length_take]; omega
        go_upto_region 10 with (fail)
        go_cut [] (fun wc => Lst w1 wc ((y.take (i + 1)).map Rp.rule))
        case first =>
          obtain ⟨v2, hc0, hc1, hf0', hf1', hcD, hown2, hk1r, hszr⟩ := HL
          have hq0 : w1.heap.size < wr.heap.size := by omega
          have hk0r : Kept w wr := hk1.trans' hk1r
          rw [hlen2] at hown2
          obtain ⟨hcr, hfr⟩ := bcell hk0r
          have hbr : b' < wr.heap.size := by have := hk0r.size; omega
          go_region_law (first
            | (refine step_append_el (T := ruleT) rfl (.tmp 31) (.tmp 37) 39 rfl (w1.heap.size + 1 + 1) 43 i3 _ 10 Try.underlying39 hi3 hz30 hz31 hz32 rfl (by decide) v2 i _ (by rfl) ((hown2.drew.kept hk).alloc _) _ _ _ (rofR r.use r.ids r.cls r.oth) (by rfl) (heap_alloc_new w3 _) ⟨rfl, hrok0, hrok1⟩ (by simp [Value.oneCell']) (by unfold maxLen; omega) (by omega) (by have := hk.size; simp at this ⊢; omega) ?_; intro g cap w4 hown3 hg3 hbel3 hat3 hlt3; obtain ⟨hcz, hfz⟩ := bcell hbel3)
            | (go_simp; go_at_call 18; refine (rof_any _ _ _ _ _ ⟨ok0, ok1⟩ ⟨ok2, ok3⟩ ⟨ok4, ok5⟩ ⟨ok6, ok7⟩).mono ?_; rintro e w3 ⟨rfl, hk⟩; obtain ⟨hcq, hfq⟩ := bcellD hk; have hs1 : w1.heap.size + 1 < w3.heap.size := Nat.lt_of_lt_of_le hszr hk.size; have hs2 : w1.heap.size < w3.heap.size := Nat.lt_of_lt_of_le hq0 hk.size; dsimp only))
          all_goals go_wp2_with fail
          all_goals
            go_meet
            have e5 : (y.take (i + 1)).map Rp.rule = (y.take i).map Rp.rule ++ [rofR r.use r.ids r.cls r.oth] := map_take_succ Hr.out
            have e6 : ((y.take (i + 1)).map Rp.rule).length = i + 1 := by rw [e5, List.length_append, hlen2]; rfl
            have hk2 : Kept w1 w4 := by
              have hs2 : wr.heap.size ≤ w3.heap.size := hk.size
              refine Below.trans ((hk1r.trans ((of_drew hk).mono hk1r.size)).alloc (by omega) _) (hbel3.mono (by omega))
            refine ⟨.slice (some ⟨g, 0, none⟩) (i + 1) cap, by go_simp, by go_simp, by go_simp, by go_simp, fun o => ?_, by rw [e6, e5]; exact hown3.setCell (fun h => h) (Nat.lt_succ_self _) _,
              hk2.setCell (by show _ ≤ w1.heap.size + 1; omega) _, by have h1 := hbel3.size; simp only [World.size_alloc] at h1; simp only [World.size_setCell]; omega⟩
            rw [World.cell?_setCell_other _ _ _ _ (fun e => by injection e with e; omega)]
            rw [hcz _ _ (by omega), World.cell?_alloc_lt _ _ _ (by exact hs2), hcq _ _ (by omega)]
            exact hcD o
        case rest =>
          obtain ⟨wr, rfl⟩ : ∃ W : World, W = wc := ⟨_, rfl⟩
          have HL2 := hide hcut
          obtain ⟨v2, hc0, hc1, hf0', hf1', hcD, hown2, hk1r, hszr⟩ := hcut
          have hq0 : w1.heap.size < wr.heap.size := by omega
          have hk0r : Kept w wr := hk1.trans' hk1r
          clear hown2 hc0 hc1 hf0' hf1'
          obtain ⟨hcr, hfr⟩ := bcell hk0r
          have hbr : b' < wr.heap.size := by have := hk0r.size; omega
          go_upto_region 11 with (fail)
          go_region_held3 (fun w' => (∀ b o, b < wr.heap.size → w'.cell? ⟨b, o, none⟩ = wr.cell? ⟨b, o, none⟩) ∧ Below wr.heap.size wr w') (first | assumption | exact since_start | exact since_keep (by assumption) (Nat.le_refl _) hk) (first
            | (go_at_call 18; refine (rof_any _ _ _ _ _ ⟨ok0, ok1⟩ ⟨ok2, ok3⟩ ⟨ok4, ok5⟩ ⟨ok6, ok7⟩).mono ?_; rintro e w3 ⟨rfl, hk⟩)
            | (go_at_call 12; refine (face_any _ _ hf0 hf1).mono ?_; rintro e w3 ⟨rfl, hk⟩)
            | (go_at_call 11; refine (score_any _ _ _ _ _ _ _ _ _ _ _ _ _ _ _ _ _ _ _ _ _ _ _ _ _ _ hrok0 hrok1).mono ?_; rintro e w3 ⟨rfl, hk⟩))
          go_wp2
          all_goals
            have e7 : mostTo (scB f) (y.map Rp.rule) (i + 1) = max mo (scB f r.rule) := by rw [mostTo_succ (r := r.rule) (by rw [List.getElem?_map, Hr.out]; rfl), Hmo.out]
            have e8 : scB f r.rule = scoreS (rofR r.use r.ids r.cls r.oth).use (rofR r.use r.ids r.cls r.oth).vendor (rofR r.use r.ids r.cls r.oth).product (rofR r.use r.ids r.cls r.oth).cls (rofR r.use r.ids r.cls r.oth).sub (rofR r.use r.ids r.cls r.oth).proto 4660 7 (3 + f % 3) (f / 3 % 3) (f / 9 % 3) := rfl
            go_roundg (gk - 1)
            case measure => have := Hi.out; omega
            case rel =>
              refine ⟨i + 1, by have := Hi.out; omega, by go_num, ?_, ?_⟩
              · rw [e7, e8]
                refine congrArg (Value.int .i64) ?_
                omega
              · exact HL2.out.kept (‹(∀ b o, b < wr.heap.size → _) ∧ Below wr.heap.size wr _›).2
      · have Hmi : Hid (i = m) := by have := Hi.out; exact (by omega : i = m)
        have hlt' : (m : Int) ≤ (i : Int) := by omega
        go_wp2_with fail
        have hrs : (y.take i).map Rp.rule = y.map Rp.rule := by rw [Hmi.out, ← hy.1, List.take_length]
        have hlen2 : (y.map Rp.rule).length ≤ 4 := by rw [List.length_map, hy.1]; omega
        have Hlr : Hid (i = (y.map Rp.rule).length) := by have := Hmi.out; rw [Hid, List.length_map, hy.1]; exact this
        rw [hrs] at HL
        clear hrs
        generalize hrs : y.map Rp.rule = rs at *
        have Hrs := hide hrs
        clear hrs
        have HL0 := hide HL
        obtain ⟨v2, hc0, hc1, hf0', hf1', hcD, hown2, hk1r, hszr⟩ := HL
        have hq0 : w1.heap.size < wr.heap.size := by omega
        have hk0r : Kept w wr := hk1.trans' hk1r
        have hlm : l.length ≤ maxLen := by unfold maxLen; omega
        have hslr := hide (hown.sl.kept hk1r)
        clear hown hown2 hf0' hf1' hc0 hc1
        go_region_held3 (fun w' => (∀ b o, b < wr.heap.size → w'.cell? ⟨b, o, none⟩ = wr.cell? ⟨b, o, none⟩) ∧ Below wr.heap.size wr w') (first | assumption | exact since_start | exact since_keep (by assumption) (Nat.le_refl _) hk) (first
          | (go_at_call 12; refine (face_any _ _ hf0 hf1).mono ?_; rintro e w3 ⟨rfl, hk⟩)
          | (go_at_call 14; refine (match_any _ _ _ _ _ _ _ _ _ _ _ _ _ _ _ _ _ _ _ _ _ _ _ _ hlm (by exact hslr.out.kept (of_drew hk))).mono ?_; rintro e w4 ⟨rfl, hk⟩))
        have hS4 := (‹(∀ b o, b < wr.heap.size → _) ∧ Below wr.heap.size wr w4›).2
        have Hs4 := hide (hslr.out.kept hS4)
        have HL4 := HL0.out.kept hS4
        obtain ⟨wr, rfl⟩ : ∃ W : World, W = w4 := ⟨_, rfl⟩
        clear hq0 hk0r hcD hszr
        obtain ⟨v2, hc0, hc1, hf0', hf1', hcD, hown2, hk1r, hszr⟩ := HL4
        have hq0 : w1.heap.size < wr.heap.size := by omega
        have hk0r : Kept w wr := hk1.trans' hk1r
        clear hf0' hf1'
        go_wp2_with fail
        obtain ⟨A2, c2, rfl, hj1, hj2⟩ := hown2.isSlice
        have Hs2 := hide hown2.sl
        have Hrel : Hid (∀ (W' : World) (v : Value), ((∀ b o, b < wr.heap.size → W'.cell? ⟨b, o, none⟩ = wr.cell? ⟨b, o, none⟩) ∧ Below wr.heap.size wr W') → (∀ g, v.ownBlock = some g → wr.heap.size ≤ g) → drvT.rel W' (apart W' v) ⟨⟨#[76, 65, 83, 84]⟩, rs⟩ [.string ⟨#[76, 65, 83, 84]⟩, .slice A2 rs.length c2]) :=
          fun W' v hS hv => ⟨A2, c2, rfl, hj1, hj2, (by show (4 : Nat) ≤ maxLen; decide), sl_apart Hs2.out hS (Nat.le_refl _) hv⟩
        go_region_held3 (fun w' => (∀ b o, b < wr.heap.size → w'.cell? ⟨b, o, none⟩ = wr.cell? ⟨b, o, none⟩) ∧ Below wr.heap.size wr w') (first | assumption | exact since_start | exact since_keep (by assumption) (Nat.le_refl _) hk | exact since_alloc (by assumption) (Nat.le_refl _) | exact since_below (by assumption) hb) (first
          | (refine step_append_el (T := drvT) rfl (.tmp 62) (.tmp 64) 24 rfl wr.heap.size 41 i1 _ 40 Try.underlying24 hi1 hz10 hz11 hz12 rfl (by decide) v5 (0 + l.length) _ (by rfl) (by first | (with_reducible exact hown5.alloc _) | (with_reducible exact hown5)) _ (#[.string ⟨#[76, 65, 83, 84]⟩, .slice A2 rs.length c2]) 41 ⟨⟨#[76, 65, 83, 84]⟩, rs⟩ (by rfl)
               (by first | (refine heap_at _ ?_; simp; done) | (refine heap_grown hg5 ?_ ?_ <;> first | (refine heap_at _ ?_; simp; done) | (refine heap_past (heap_at _ ?_); simp; done) | (simp [Value.ownBlock]; done) | (simp [Value.ownBlock]; omega)))
               (Hrel.out _ _ (by assumption) (fun g hg => (hown5.lt hg).1)) (by simp [Value.oneCell']) (by unfold maxLen; omega) (by omega) (by have := hb.size; simp at this ⊢; omega) ?_
             intro g6 cap6 w6 hown6 hg6 hb hat6 hlt6)
          | (fail_if_success (have _q := v5)
             refine step_append_sl (T := drvT) rfl (.tmp 60) (.tmp 61) 24 rfl wr.heap.size 41 i1 _ 40 Try.underlying24 hi1 hz10 hz11 hz12 rfl (by decide) _ 0 [] (by rfl) (Own.lit0 drvT 41 _ (by simp) (by repeat' first | exact heap_at _ (by first | rfl | (simp; done) | (simp; omega)) | exact heap_row (by assumption) | assumption | refine heap_past ?_ | refine heap_drew ?_)) Av l.length cv l (by rfl)
               (sl_apart Hs4.out (by assumption) (Nat.le_refl _) (by intro g hg; simp [Value.ownBlock] at hg; omega)) (by rintro d cs ⟨A0, c0, rfl, _⟩ u hu; simp at hu; rcases hu with rfl | rfl <;> rfl) (by unfold maxLen; omega) (by omega) (by simp; try omega) ?_
             intro v5 w5 hown5 hg5 hb hat5)
          | (go_at_call 12; refine (face_any _ _ hf0 hf1).mono ?_; rintro e w7 ⟨rfl, hk⟩)
          | (go_at_call 14; refine (match_any _ _ _ (l ++ [⟨⟨#[76, 65, 83, 84]⟩, rs⟩]) _ _ _ _ _ _ _ _ _ _ _ _ _ _ _ _ _ _ _ _ (by unfold maxLen; omega) (by have h6 := (hown6.kept hk).sl; rw [Nat.zero_add] at h6; exact h6)).mono ?_; rintro e w8 ⟨rfl, hk⟩))
        all_goals
          have hS8 := (‹(∀ b o, b < wr.heap.size → _) ∧ Below wr.heap.size wr w8›).2
          have hk8 : Kept w w8 := hk0r.trans' hS8
          have hmost : mostTo (fun r => r.score 4660 7 (3 + f % 3) (f / 3 % 3) (f / 9 % 3)) rs rs.length = mo := by rw [← Hmo.out, Hlr.out]; exact rfl
          have hsn := matchS_snoc (fun r => r.score 4660 7 (3 + f % 3) (f / 3 % 3) (f / 9 % 3)) l ⟨⟨#[76, 65, 83, 84]⟩, rs⟩
          simp only at hsn
          rw [hmost] at hsn
          generalize matchS (fun r => r.score 4660 7 (3 + f % 3) (f / 3 % 3) (f / 9 % 3)) l = pp at *
          by_cases hcmp : pp.2 < mo
          · rw [if_pos hcmp] at hsn
            rw [hsn]
            clear hsn hmost
            go_wp2_with (first | (go_at_call 17; refine (lives_any _).mono ?_; rintro e w9 ⟨rfl, hk9⟩))
            go_ret
            exact ⟨rfl, hk8.trans' hk9⟩
          · rw [if_neg hcmp] at hsn
            rw [hsn]
            clear hsn hmost
            have hcmp' : mo ≤ pp.2 := by omega
            go_wp2_with (first | (go_at_call 17; refine (lives_any _).mono ?_; rintro e w9 ⟨rfl, hk9⟩))
            go_ret
            exact ⟨rfl, hk8.trans' hk9⟩
end Go.Proofs.Ytgkhenplbljbbaa
