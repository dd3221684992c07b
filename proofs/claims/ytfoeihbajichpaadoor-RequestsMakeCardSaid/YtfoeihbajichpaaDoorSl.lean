

/- Text: the text of a request. The numbers lie in their kinds; the library's variables are as the program lays them. -/
import Derived.Test.YtfoeihbajichpaaDoorChecked
import Derived.Deep.RegionHeld3
import Derived.Deep.DrawnRows
import Derived.Deep.DeepCutAuto
import Derived.Deep.LoopGhost
import Derived.Outline
import Derived.Handy
import Derived.OwnWalk
import Derived.Test.YtfoeihbajichpaaDoorSc
import Derived.Test.YtfoeihbajichpaaDoorRj
import Derived.Lib.ItoaLen
set_option linter.unusedVariables false
set_option linter.unusedSimpArgs false
set_option linter.unusedSectionVars false
namespace Go.Proofs.YtfoeihbajichpaaDoor
open Go.RowKit Go.Lib Go.Maps Go.WideShapes
attribute [local go_sem ↓] Go.wp_at_zero Go.wp_at_succ

theorem itoa_small {n : Int} (h0 : 0 ≤ n) (h1 : n < 65536) : (Lib.itoa n).length ≤ 21 := Lib.itoa_length_le n (by omega) (by omega)
theorem words_small {r : Rq} (h : r.ok) : ∀ w ∈ wordsL r, w.length ≤ 21 := by
  obtain ⟨⟨a0, a1⟩, ⟨b0, b1⟩, ⟨c0, c1⟩, ⟨d0, d1⟩, ⟨e0, e1⟩⟩ := h
  have hn : ∀ k, (namesL.getD k []).length ≤ 21 := fun k => by
    rw [List.getD_eq_getElem?_getD]
    cases hk : namesL[k]? with
    | none => simp
    | some x => have : ∀ y ∈ namesL, y.length ≤ 21 := by decide
                exact this x (List.mem_of_getElem? hk)
  have hq : ∀ k, (kindsL.getD k []).length ≤ 21 := fun k => by
    rw [List.getD_eq_getElem?_getD]
    cases hk : kindsL[k]? with
    | none => simp
    | some x => have : ∀ y ∈ kindsL, y.length ≤ 21 := by decide
                exact this x (List.mem_of_getElem? hk)
  have hm : ∀ k, (whomL.getD k []).length ≤ 21 := fun k => by
    rw [List.getD_eq_getElem?_getD]
    cases hk : whomL[k]? with
    | none => simp
    | some x => have : ∀ y ∈ whomL, y.length ≤ 21 := by decide
                exact this x (List.mem_of_getElem? hk)
  intro w hw
  simp only [wordsL, List.mem_cons, List.not_mem_nil, or_false] at hw
  rcases hw with rfl | rfl | rfl | rfl | rfl | rfl | rfl
  · unfold wayW; split <;> decide
  · exact hq _
  · unfold whomW; split
    · exact hm _
    · exact itoa_small (by omega) (by omega)
  · unfold codeW; split
    · exact hn _
    · exact itoa_small b0 (by omega)
  · exact itoa_small c0 c1
  · exact itoa_small d0 d1
  · exact itoa_small e0 e1
theorem text_small {r : Rq} (h : r.ok) : (textL r).length ≤ 200 := by
  have hs := words_small h
  have h0 := hs (wayW r.typ) (by simp [wordsL])
  have h1 := hs (kindW r.typ) (by simp [wordsL])
  have h2 := hs (whomW r.typ) (by simp [wordsL])
  have h3 := hs (codeW r.typ r.code) (by simp [wordsL])
  have h4 := hs (Lib.itoa r.val) (by simp [wordsL])
  have h5 := hs (Lib.itoa r.idx) (by simp [wordsL])
  have h6 := hs (Lib.itoa r.len) (by simp [wordsL])
  unfold textL wordsL
  rw [Lib.join_length]
  simp only [Lib.lens, List.length_cons, List.length_nil, List.map_cons, List.map_nil, List.sum_cons, List.sum_nil]
  omega
theorem kinds_cell {w : World} {b : Nat} (h : w.heap[b]? = some (.cells (kindsB.map Value.string).toArray 9 (0, 0))) {t : Int} (h0 : 0 ≤ t / 32 % 4) (h1 : t / 32 % 4 < 4) : w.cell? ⟨b, (t / 32 % 4).toNat, none⟩ = some (.string (B8 (kindW t))) := by
  refine row_cell h ?_
  unfold kindsB kindW
  rw [List.getElem?_map, List.getD_eq_getElem?_getD, List.getElem?_eq_getElem (show (t / 32 % 4).toNat < kindsL.length by show _ < 4; omega)]
  rfl
theorem whom_cell {w : World} {b : Nat} (h : w.heap[b]? = some (.cells (whomB.map Value.string).toArray 9 (0, 0))) {k : Int} (h0 : 0 ≤ k) (h1 : k < 4) : w.cell? ⟨b, k.toNat, none⟩ = some (.string (B8 (whomL.getD k.toNat []))) := by
  refine row_cell h ?_
  unfold whomB
  rw [List.getElem?_map, List.getD_eq_getElem?_getD, List.getElem?_eq_getElem (show k.toNat < whomL.length by show _ < 4; omega)]
  rfl
set_option maxRecDepth 100000 in
set_option maxHeartbeats 8000000 in
theorem text_any (t c v x l : Int) (w : World) (hok : Rq.ok ⟨t, c, v, x, l⟩) (hT : Tabs w) :
    Calls Tryd.prog 18 #[.agg #[.int .u8 (t), .int .u8 (c), .int .u16 (v), .int .u16 (x), .int .u16 (l)]] w fun e w' => e = .returned (.string (textB ⟨t, c, v, x, l⟩)) ∧ Kept w w' := by
  have Hsm := Lib.hid (text_small hok)
  obtain ⟨⟨t0, t1⟩, ⟨c0, c1⟩, ⟨v0, v1⟩, ⟨x0, x1⟩, ⟨l0, l1⟩⟩ := hok
  dsimp only at t0 t1 c0 c1 v0 v1 x0 x1 l0 l1
  have r0 : 0 ≤ t % 32 := by omega
  have r1 : t % 32 < 32 := by omega
  have k0 : 0 ≤ t / 32 % 4 := by omega
  have k1 : t / 32 % 4 < 4 := by omega
  have HIN := fun W => in_any t c v x l W t0 t1
  have HRV := fun W => recv_any t c v x l W t0 t1
  have HKD := fun W => kind_any t c v x l W t0 t1
  have HNR := fun W (h : Tabs W) => number_any (t % 32) W r0 (by omega) h
  have HNC := fun W (h : Tabs W) => number_any c W c0 (by omega) h
  have HNV := fun W (h : Tabs W) => number_any v W v0 v1 h
  have HNX := fun W (h : Tabs W) => number_any x W x0 x1 h
  have HNL := fun W (h : Tabs W) => number_any l W l0 l1 h
  have HNM := fun W (h : Tabs W) => name_any c W c0 c1 h
  have hwr : IntKind.u16.wrap (t % 32) = t % 32 := by rw [IntKind.wrap_u16]; omega
  have hwc : IntKind.u16.wrap c = c := by rw [IntKind.wrap_u16]; omega
  go_enter Tryd.func18, Tryd.ntmps18
  go_upto_region 1 with (fail)
  refine wp_at (fun W => W.heap[w.heap.size]? = some (.cells #[.int .u8 (t), .int .u8 (c), .int .u16 (v), .int .u16 (x), .int .u16 (l)] 25 (0, 0)) ∧ Kept w W) ⟨heap_at _ rfl, by go_grown⟩ (fun W hW => ?_)
  obtain ⟨HX, hkW⟩ := hW
  have hTW := Lib.hid (hT.kept hkW)
  have z0 := cell_heap HX (o := 0) rfl
  have z1 := cell_heap HX (o := 1) rfl
  have z2 := cell_heap HX (o := 2) rfl
  have z3 := cell_heap HX (o := 3) rfl
  have z4 := cell_heap HX (o := 4) rfl
  have hxl := heap_lt HX
  go_cut [3, 4, 5] (fun s3 s4 s5 wc => s3 = .string ⟨#[111, 117, 116]⟩ ∧ s4 = .string (B8 (Lib.itoa (t % 32))) ∧ s5 = .string (B8 (Lib.itoa c)) ∧ Kept W wc)
  case first =>
    go_region_held3 (fun w' => (∀ b o, b < W.heap.size → w'.cell? ⟨b, o, none⟩ = W.cell? ⟨b, o, none⟩) ∧ Below W.heap.size W w') (first | assumption | exact since_start | exact since_keep (by assumption) (Nat.le_refl _) hk) (first
      | (go_at_call 14; refine (HRV _).mono ?_; rintro e w1 ⟨rfl, hk⟩; dsimp only)
      | (go_at_call 41; refine (HNR _ (hTW.out.kept (Below.mono (by assumption : _ ∧ _).2 (Nat.le_refl _)))).mono ?_; rintro e w1 ⟨rfl, hk⟩; dsimp only)
      | (go_at_call 41; refine (HNC _ (hTW.out.kept (Below.mono (by assumption : _ ∧ _).2 (Nat.le_refl _)))).mono ?_; rintro e w1 ⟨rfl, hk⟩; dsimp only))
    all_goals go_wp2
    all_goals go_meet
    all_goals exact ⟨rfl, rfl, rfl, since_kept (Below.refl _ _) (by assumption) (Nat.le_refl _)⟩
  case rest =>
    obtain ⟨rfl, rfl, rfl, hkc⟩ := hcut
    have HXc := heap_kept hkc HX
    have hkwc := Lib.hid (hkW.trans' hkc)
    have hTc := Lib.hid (hT.kept hkwc.out)
    clear HX z0 z1 z2 z3 z4 hxl hkW hkc hTW
    have z0 := cell_heap HXc (o := 0) rfl
    have z1 := cell_heap HXc (o := 1) rfl
    have z2 := cell_heap HXc (o := 2) rfl
    have z3 := cell_heap HXc (o := 3) rfl
    have z4 := cell_heap HXc (o := 4) rfl
    have hxl := heap_lt HXc
    go_upto_if 17 with (go_at_call 12; refine (HIN _).mono ?_; rintro e w1 ⟨rfl, hk⟩)
    go_cut [3] (fun s3 wd => s3 = .string (B8 (wayW t)) ∧ wd = w1)
    case first =>
      by_cases hin : 128 ≤ t
      · have e : wayW t = [105, 110] := if_pos hin
        go_wp2
        go_meet
        exact ⟨by rw [e]; rfl, rfl⟩
      · have e : wayW t = [111, 117, 116] := if_neg hin
        have hin' : t < 128 := by omega
        go_wp2
        go_meet
        exact ⟨by rw [e]; rfl, rfl⟩
    case rest =>
      obtain ⟨rfl, rfl⟩ := hcut
      replace HXc := heap_kept hk HXc
      replace hkwc := Lib.hid (hkwc.out.trans' hk)
      replace hTc := Lib.hid (hT.kept hkwc.out)
      replace z0 := cell_heap HXc (o := 0) rfl
      replace z1 := cell_heap HXc (o := 1) rfl
      replace z2 := cell_heap HXc (o := 2) rfl
      replace z3 := cell_heap HXc (o := 3) rfl
      replace z4 := cell_heap HXc (o := 4) rfl
      replace hxl := heap_lt HXc
      clear hk
      generalize hWW : B8 (wayW t) = WW at *
      have HWW := Lib.hid hWW
      clear hWW
      refine (show ∀ (a : Act) (w : World), Code.wp Tryd.prog _ _ a w → _ from by assumption) _ _ ?_
      (apply wp_seq_k; intro _ _)
      go_cut [4] (fun s4 wd => s4 = .string (B8 (whomW t)) ∧ Kept wc wd)
      case first =>
        by_cases h4 : t % 32 < 4
        · have e : whomW t = whomL.getD (t % 32).toNat [] := if_pos h4
          have Hwc := fun (W : World) b (h : W.heap[b]? = _) => whom_cell (w := W) (b := b) h r0 h4
          rw [← e] at Hwc
          have HE := Lib.hid e
          clear e
          go_wp2_with (first
            | (go_at_call 36; refine (split_at whomB _ _ (by decide +kernel) (by decide +kernel) hTc.out).mono ?_; rintro e w2 ⟨rfl, rfl⟩; rw [show whomB.length = 4 from rfl]; have hq2 := heap_at (w := wc) (.cells (whomB.map Value.string).toArray 9) rfl; have hkw2 : Kept wc (wc.alloc (.cells (whomB.map Value.string).toArray 9)) := (Below.refl _ _).alloc (Nat.le_refl _) _)
            | (have hg := hk3; go_at_call 14; refine (HRV _).mono ?_; rintro e w4 ⟨rfl, hk4⟩; have hq4 := Hwc _ _ (heap_kept hk4 (heap_kept hk3 hq2)); have hkw4 : Kept wc w4 := (hkw2.trans' hk3).trans' hk4; have hl4 : wc.heap.size < w4.heap.size := heap_lt (heap_kept hk4 (heap_kept hk3 hq2)))
            | (go_at_call 14; refine (HRV _).mono ?_; rintro e w3 ⟨rfl, hk3⟩; obtain ⟨hc3, hf3⟩ := bcell hk3; have hz3 := hk3.size; simp only [World.size_alloc] at hc3 hf3 hz3; have hl3 : w.heap.size < w3.heap.size := (by omega)))
          go_meet
          exact ⟨rfl, hkw4⟩
        · have e : whomW t = Lib.itoa (t % 32) := if_neg h4
          have h4' : 4 ≤ t % 32 := by omega
          have HE := Lib.hid e
          clear e
          go_wp2_with (first
            | (go_at_call 36; refine (split_at whomB _ _ (by decide +kernel) (by decide +kernel) hTc.out).mono ?_; rintro e w2 ⟨rfl, rfl⟩; rw [show whomB.length = 4 from rfl]; have hkw2 : Kept wc (wc.alloc (.cells (whomB.map Value.string).toArray 9)) := (Below.refl _ _).alloc (Nat.le_refl _) _)
            | (go_at_call 14; refine (HRV _).mono ?_; rintro e w3 ⟨rfl, hk3⟩))
          go_meet
          exact ⟨by rw [HE.out], hkw2.trans' hk3⟩
      case rest =>
        obtain ⟨rfl, hk5⟩ := hcut
        replace HXc := heap_kept hk5 HXc
        replace hkwc := Lib.hid (hkwc.out.trans' hk5)
        replace hTc := Lib.hid (hT.kept hkwc.out)
        replace z0 := cell_heap HXc (o := 0) rfl
        replace z1 := cell_heap HXc (o := 1) rfl
        replace z2 := cell_heap HXc (o := 2) rfl
        replace z3 := cell_heap HXc (o := 3) rfl
        replace z4 := cell_heap HXc (o := 4) rfl
        replace hxl := heap_lt HXc
        clear hk5
        generalize hWM : B8 (whomW t) = WM at *
        have HWM := Lib.hid hWM
        clear hWM
        refine (show ∀ (a : Act) (w : World), Code.wp Tryd.prog _ _ a w → _ from by assumption) _ _ ?_
        (apply wp_seq_k; intro _ _)
        go_cut [5] (fun s5 wd => s5 = .string (B8 (codeW t c)) ∧ Kept wc wd)
        case first =>
          have HM := HNM wc hTc.out
          by_cases hk0 : t / 32 % 4 = 0
          · have hb0 : (t / 32 % 4 == 0) = true := by simp [hk0]
            by_cases hn : nameW c = []
            · have e : codeW t c = Lib.itoa c := if_neg (fun h => h.2 hn)
              rw [hn] at HM
              have he := bytes_empty (s := B8 []) rfl
              have HE := Lib.hid e
              clear e hk0 hn
              generalize B8 [] = NM at *
              have hei : NM.toList.isEmpty = true := by rw [he]; rfl
              go_wp2_with (first
                | (go_at_call 42; refine HM.mono ?_; rintro e w2 ⟨rfl, hk2⟩; obtain ⟨hc2, hf2⟩ := bcell hk2)
                | (go_at_call 13; refine (HKD _).mono ?_; rintro e w3 ⟨rfl, hk3⟩))
              go_meet
              exact ⟨by rw [HE.out], hk2.trans' hk3⟩
            · have e : codeW t c = nameW c := if_pos ⟨hk0, hn⟩
              obtain ⟨hne, hni⟩ := bytes_some (s := B8 (nameW c)) (by rw [B8_size]; exact fun h => hn (List.eq_nil_of_length_eq_zero h))
              generalize hnm : B8 (nameW c) = NM at *
              have HE := Lib.hid e
              have HN := Lib.hid hnm
              clear e hk0 hn hnm
              go_wp2_with (first
                | (go_at_call 42; refine HM.mono ?_; rintro e w2 ⟨rfl, hk2⟩; obtain ⟨hc2, hf2⟩ := bcell hk2)
                | (go_at_call 13; refine (HKD _).mono ?_; rintro e w3 ⟨rfl, hk3⟩))
              go_meet
              exact ⟨by rw [HE.out, HN.out], hk2.trans' hk3⟩
          · have hb0 : (t / 32 % 4 == 0) = false := by simp [hk0]
            have e : codeW t c = Lib.itoa c := if_neg (fun h => hk0 h.1)
            have HE := Lib.hid e
            clear e hk0
            go_wp2_with (first
              | (go_at_call 42; refine HM.mono ?_; rintro e w2 ⟨rfl, hk2⟩; obtain ⟨hc2, hf2⟩ := bcell hk2)
              | (go_at_call 13; refine (HKD _).mono ?_; rintro e w3 ⟨rfl, hk3⟩))
            go_meet
            exact ⟨by rw [HE.out], hk2.trans' hk3⟩
        case rest =>
          obtain ⟨rfl, hk6⟩ := hcut
          replace HXc := heap_kept hk6 HXc
          replace hkwc := Lib.hid (hkwc.out.trans' hk6)
          replace hTc := Lib.hid (hT.kept hkwc.out)
          replace z0 := cell_heap HXc (o := 0) rfl
          replace z1 := cell_heap HXc (o := 1) rfl
          replace z2 := cell_heap HXc (o := 2) rfl
          replace z3 := cell_heap HXc (o := 3) rfl
          replace z4 := cell_heap HXc (o := 4) rfl
          replace hxl := heap_lt HXc
          clear hk6
          go_upto_region 10 with (fail)
          have kb0 : (0 : Int) ≤ t / 32 % 4 := k0
          have hlk : (3 : Int) < 4 := by decide
          refine wp_region_held_drew (S := fun w' => (∀ b o, b < wc.heap.size → w'.cell? ⟨b, o, none⟩ = wc.cell? ⟨b, o, none⟩) ∧ Below wc.heap.size wc w') (by kernel_rfl) since_start (fun hS => ?_)
          refine wpAnyH_take (i := 0) (v := ?_) rfl (by kernel_rfl) (by kernel_rfl) (by kernel_rfl) (fun _ _ _ h => h) (Or.inl ⟨by kernel_rfl, ?_⟩) hS ?_
          rotate_left
          · intro w' hS'
            have hq := hS'.1
            have hq2 := hS'.2
            clear hS'
            first | (go_simp; done) | (go_simp; with_reducible rfl)
          try simp only [Act.put, List.getElem_toArray, List.getElem_cons_zero, List.getElem_cons_succ, List.setIfInBounds_toArray, List.set_cons_zero, List.set_cons_succ]
          refine wpAnyH_take (i := 2) (v := ?_) rfl (by kernel_rfl) (by kernel_rfl) (by kernel_rfl) (fun _ _ _ h => h) (Or.inl ⟨by kernel_rfl, ?_⟩) hS ?_
          rotate_left
          · intro w' hS'
            have hq := hS'.1
            have hq2 := hS'.2
            clear hS'
            first | (go_simp; done) | (go_simp; with_reducible rfl)
          try simp only [Act.put, List.getElem_toArray, List.getElem_cons_zero, List.getElem_cons_succ, List.setIfInBounds_toArray, List.set_cons_zero, List.set_cons_succ]
          refine wpAnyH_take (i := 6) (v := ?_) rfl (by kernel_rfl) (by kernel_rfl) (by kernel_rfl) (fun _ _ _ h => h) (Or.inl ⟨by kernel_rfl, ?_⟩) hS ?_
          rotate_left
          · intro w' hS'
            have hq := hS'.1
            have hq2 := hS'.2
            clear hS'
            first | (go_simp; done) | (go_simp; with_reducible rfl)
          try simp only [Act.put, List.getElem_toArray, List.getElem_cons_zero, List.getElem_cons_succ, List.setIfInBounds_toArray, List.set_cons_zero, List.set_cons_succ]
          refine wpAnyH_take (i := 7) (v := ?_) rfl (by kernel_rfl) (by kernel_rfl) (by kernel_rfl) (fun _ _ _ h => h) (Or.inl ⟨by kernel_rfl, ?_⟩) hS ?_
          rotate_left
          · intro w' hS'
            have hq := hS'.1
            have hq2 := hS'.2
            clear hS'
            first | (go_simp; done) | (go_simp; with_reducible rfl)
          try simp only [Act.put, List.getElem_toArray, List.getElem_cons_zero, List.getElem_cons_succ, List.setIfInBounds_toArray, List.set_cons_zero, List.set_cons_succ]
          refine wpAnyH_take (i := 8) (v := ?_) rfl (by kernel_rfl) (by kernel_rfl) (by kernel_rfl) (fun _ _ _ h => h) (Or.inl ⟨by kernel_rfl, ?_⟩) hS ?_
          rotate_left
          · intro w' hS'
            have hq := hS'.1
            have hq2 := hS'.2
            clear hS'
            first | (go_simp; done) | (go_simp; with_reducible rfl)
          try simp only [Act.put, List.getElem_toArray, List.getElem_cons_zero, List.getElem_cons_succ, List.setIfInBounds_toArray, List.set_cons_zero, List.set_cons_succ]
          refine wpAnyH_take (i := 9) (v := ?_) rfl (by kernel_rfl) (by kernel_rfl) (by kernel_rfl) (fun _ _ _ h => h) (Or.inl ⟨by kernel_rfl, ?_⟩) hS ?_
          rotate_left
          · intro w' hS'
            have hq := hS'.1
            have hq2 := hS'.2
            clear hS'
            first | (go_simp; done) | (go_simp; with_reducible rfl)
          try simp only [Act.put, List.getElem_toArray, List.getElem_cons_zero, List.getElem_cons_succ, List.setIfInBounds_toArray, List.set_cons_zero, List.set_cons_succ]
          refine wpAnyH_take (i := 11) (v := ?_) rfl (by kernel_rfl) (by kernel_rfl) (by kernel_rfl) (fun _ _ _ h => h) (Or.inl ⟨by kernel_rfl, ?_⟩) hS ?_
          rotate_left
          · intro w' hS'
            have hq := hS'.1
            have hq2 := hS'.2
            clear hS'
            first | (go_simp; done) | (go_simp; with_reducible rfl)
          try simp only [Act.put, List.getElem_toArray, List.getElem_cons_zero, List.getElem_cons_succ, List.setIfInBounds_toArray, List.set_cons_zero, List.set_cons_succ]
          refine wpAnyH_take (i := 12) (v := ?_) rfl (by kernel_rfl) (by kernel_rfl) (by kernel_rfl) (fun _ _ _ h => h) (Or.inl ⟨by kernel_rfl, ?_⟩) hS ?_
          rotate_left
          · intro w' hS'
            have hq := hS'.1
            have hq2 := hS'.2
            clear hS'
            first | (go_simp; done) | (go_simp; with_reducible rfl)
          try simp only [Act.put, List.getElem_toArray, List.getElem_cons_zero, List.getElem_cons_succ, List.setIfInBounds_toArray, List.set_cons_zero, List.set_cons_succ]
          refine wpAnyH_take (i := 14) (v := ?_) rfl (by kernel_rfl) (by kernel_rfl) (by kernel_rfl) (fun _ _ _ h => h) (Or.inl ⟨by kernel_rfl, ?_⟩) hS ?_
          rotate_left
          · intro w' hS'
            have hq := hS'.1
            have hq2 := hS'.2
            clear hS'
            first | (go_simp; done) | (go_simp; with_reducible rfl)
          try simp only [Act.put, List.getElem_toArray, List.getElem_cons_zero, List.getElem_cons_succ, List.setIfInBounds_toArray, List.set_cons_zero, List.set_cons_succ]
          refine wpAnyH_take (i := 15) (v := ?_) rfl (by kernel_rfl) (by kernel_rfl) (by kernel_rfl) (fun _ _ _ h => h) (Or.inl ⟨by kernel_rfl, ?_⟩) hS ?_
          rotate_left
          · intro w' hS'
            have hq := hS'.1
            have hq2 := hS'.2
            clear hS'
            first | (go_simp; done) | (go_simp; with_reducible rfl)
          try simp only [Act.put, List.getElem_toArray, List.getElem_cons_zero, List.getElem_cons_succ, List.setIfInBounds_toArray, List.set_cons_zero, List.set_cons_succ]
          refine wpAnyH_ready (rs := [1]) (by kernel_rfl) (by simp) ?_
          refine AllReadyH.cons rfl (fun K hK => ?_) AllReadyH.nil
          go_simp
          go_at_call 36
          refine (split_at kindsB _ _ (by decide +kernel) (by decide +kernel) (hTc.out.kept hS.2)).mono ?_
          rintro e w5 ⟨rfl, rfl⟩
          rw [show kindsB.length = 4 from rfl]
          try dsimp only
          have k5 : Below wc.heap.size wc (wc.drew.alloc (.cells (kindsB.map Value.string).toArray 9)) := hS.2.alloc (show wc.heap.size ≤ wc.drew.heap.size from Nat.le_refl _) _
          have q5 := kinds_cell (w := wc.drew.alloc (.cells (kindsB.map Value.string).toArray 9)) (heap_at _ rfl) k0 k1
          refine hK.out _ _ ?_ (fun hS => ?_)
          · exact ⟨(bcell k5).1, k5⟩
          clear hK K
          try simp only [Act.put, List.getElem_toArray, List.getElem_cons_zero, List.getElem_cons_succ, List.setIfInBounds_toArray, List.set_cons_zero, List.set_cons_succ]
          generalize wc.drew.alloc (.cells (kindsB.map Value.string).toArray 9) = w5 at *
          refine wpAnyH_stronger (S' := fun w' => ((∀ b o, b < wc.heap.size → w'.cell? ⟨b, o, none⟩ = wc.cell? ⟨b, o, none⟩) ∧ Below wc.heap.size wc w') ∧ w'.cell? ⟨wc.heap.size, (t / 32 % 4).toNat, none⟩ = some (.string (B8 (kindW t)))) (fun _ h => h.1) _ _ _ _ ?_
          replace hS := And.intro hS q5
          refine wpAnyH_ready (rs := [3]) (by kernel_rfl) (by simp) ?_
          refine AllReadyH.cons rfl (fun K hK => ?_) AllReadyH.nil
          go_simp
          go_at_call 13
          refine (HKD _).mono ?_
          rintro e w6 ⟨rfl, hk⟩
          try dsimp only
          have k6 : Below wc.heap.size wc w6 := hS.1.2.trans (hk.mono hS.1.2.size)
          have q6 := (hk.cell (p := ⟨wc.heap.size, (t / 32 % 4).toNat, none⟩) (World.block_lt_of_cell? _ _ hS.2)).trans hS.2
          refine hK.out _ _ ?_ (fun hS => ?_)
          · exact ⟨⟨(bcell k6).1, k6⟩, q6⟩
          clear hK K
          try simp only [Act.put, List.getElem_toArray, List.getElem_cons_zero, List.getElem_cons_succ, List.setIfInBounds_toArray, List.set_cons_zero, List.set_cons_succ]
          clear q6 k6
          refine wpAnyH_take (i := 4) (v := ?_) rfl (by kernel_rfl) (by kernel_rfl) (by kernel_rfl) (fun _ _ _ h => h) (Or.inl ⟨by kernel_rfl, ?_⟩) hS ?_
          rotate_left
          · intro w' hS'
            have hq := hS'.1
            have hq2 := hS'.2
            clear hS'
            first | (go_simp; done) | (go_simp; with_reducible rfl)
          try simp only [Act.put, List.getElem_toArray, List.getElem_cons_zero, List.getElem_cons_succ, List.setIfInBounds_toArray, List.set_cons_zero, List.set_cons_succ]
          refine wpAnyH_take (i := 5) (v := ?_) rfl (by kernel_rfl) (by kernel_rfl) (by kernel_rfl) (fun _ _ _ h => h) (Or.inl ⟨by kernel_rfl, ?_⟩) hS ?_
          rotate_left
          · intro w' hS'
            have hq := hS'.1
            have hq2 := hS'.2
            clear hS'
            first | (go_simp; done) | (go_simp; with_reducible rfl)
          try simp only [Act.put, List.getElem_toArray, List.getElem_cons_zero, List.getElem_cons_succ, List.setIfInBounds_toArray, List.set_cons_zero, List.set_cons_succ]
          refine wpAnyH_ready (rs := [10]) (by kernel_rfl) (by simp) ?_
          refine AllReadyH.cons rfl (fun K hK => ?_) AllReadyH.nil
          go_simp
          go_at_call 41
          refine (HNV _ (hTc.out.kept hS.1.2)).mono ?_
          rintro e w7 ⟨rfl, hk⟩
          try dsimp only
          have k6 : Below wc.heap.size wc w7 := hS.1.2.trans (hk.mono hS.1.2.size)
          have q6 := (hk.cell (p := ⟨wc.heap.size, (t / 32 % 4).toNat, none⟩) (World.block_lt_of_cell? _ _ hS.2)).trans hS.2
          refine hK.out _ _ ?_ (fun hS => ?_)
          · exact ⟨⟨(bcell k6).1, k6⟩, q6⟩
          clear hK K
          try simp only [Act.put, List.getElem_toArray, List.getElem_cons_zero, List.getElem_cons_succ, List.setIfInBounds_toArray, List.set_cons_zero, List.set_cons_succ]
          clear q6 k6
          refine wpAnyH_ready (rs := [13]) (by kernel_rfl) (by simp) ?_
          refine AllReadyH.cons rfl (fun K hK => ?_) AllReadyH.nil
          go_simp
          go_at_call 41
          refine (HNX _ (hTc.out.kept hS.1.2)).mono ?_
          rintro e w8 ⟨rfl, hk⟩
          try dsimp only
          have k6 : Below wc.heap.size wc w8 := hS.1.2.trans (hk.mono hS.1.2.size)
          have q6 := (hk.cell (p := ⟨wc.heap.size, (t / 32 % 4).toNat, none⟩) (World.block_lt_of_cell? _ _ hS.2)).trans hS.2
          refine hK.out _ _ ?_ (fun hS => ?_)
          · exact ⟨⟨(bcell k6).1, k6⟩, q6⟩
          clear hK K
          try simp only [Act.put, List.getElem_toArray, List.getElem_cons_zero, List.getElem_cons_succ, List.setIfInBounds_toArray, List.set_cons_zero, List.set_cons_succ]
          clear q6 k6
          refine wpAnyH_ready (rs := [16]) (by kernel_rfl) (by simp) ?_
          refine AllReadyH.cons rfl (fun K hK => ?_) AllReadyH.nil
          go_simp
          go_at_call 41
          refine (HNL _ (hTc.out.kept hS.1.2)).mono ?_
          rintro e w9 ⟨rfl, hk⟩
          try dsimp only
          have k6 : Below wc.heap.size wc w9 := hS.1.2.trans (hk.mono hS.1.2.size)
          have q6 := (hk.cell (p := ⟨wc.heap.size, (t / 32 % 4).toNat, none⟩) (World.block_lt_of_cell? _ _ hS.2)).trans hS.2
          refine hK.out _ _ ?_ (fun hS => ?_)
          · exact ⟨⟨(bcell k6).1, k6⟩, q6⟩
          clear hK K
          try simp only [Act.put, List.getElem_toArray, List.getElem_cons_zero, List.getElem_cons_succ, List.setIfInBounds_toArray, List.set_cons_zero, List.set_cons_succ]
          clear q6 k6
          refine wpAnyH_ready (rs := [17]) (by kernel_rfl) (by simp) ?_
          refine AllReadyH.cons rfl (fun K hK => ?_) AllReadyH.nil
          go_simp
          try dsimp only
          have k6 : Below wc.heap.size wc (w9.alloc (.cells #[.string WW, .string (B8 (kindW t)), .string WM, .string (B8 (codeW t c)), .string (B8 (Lib.itoa v)), .string (B8 (Lib.itoa x)), .string (B8 (Lib.itoa l))] 9)) := hS.1.2.alloc hS.1.2.size _
          have q6 := (((Below.refl _ w9).alloc (Nat.le_refl _) (.cells #[.string WW, .string (B8 (kindW t)), .string WM, .string (B8 (codeW t c)), .string (B8 (Lib.itoa v)), .string (B8 (Lib.itoa x)), .string (B8 (Lib.itoa l))] 9)).cell (p := ⟨wc.heap.size, (t / 32 % 4).toNat, none⟩) (World.block_lt_of_cell? _ _ hS.2)).trans hS.2
          refine hK.out _ _ ?_ (fun hS => ?_)
          · exact ⟨⟨(bcell k6).1, k6⟩, q6⟩
          clear hK K
          try simp only [Act.put, List.getElem_toArray, List.getElem_cons_zero, List.getElem_cons_succ, List.setIfInBounds_toArray, List.set_cons_zero, List.set_cons_succ]
          refine wpAnyH_ready (rs := [18]) (by kernel_rfl) (by simp) ?_
          refine AllReadyH.cons rfl (fun K hK => ?_) AllReadyH.nil
          go_simp
          go_at_call 43
          have hJ : [WW, B8 (kindW t), WM, B8 (codeW t c), B8 (Lib.itoa v), B8 (Lib.itoa x), B8 (Lib.itoa l)].map (·.data.toList) = wordsL ⟨t, c, v, x, l⟩ := by
            rw [← HWW.out, ← HWM.out]; rfl
          refine (join_any w9.heap.size 0 7 [WW, B8 (kindW t), WM, B8 (codeW t c), B8 (Lib.itoa v), B8 (Lib.itoa x), B8 (Lib.itoa l)] _ (fun j y hy => by rw [Nat.zero_add]; exact row_cell (l := [WW, B8 (kindW t), WM, B8 (codeW t c), B8 (Lib.itoa v), B8 (Lib.itoa x), B8 (Lib.itoa l)]) (heap_at _ rfl) hy) (by simp) (by simp) (by simp) (by rw [hJ]; have := Hsm.out; unfold textL at this; omega)).mono ?_
          rintro e w11 ⟨rfl, hk⟩
          rw [hJ]
          try dsimp only
          clear hJ
          have k7 : Below wc.heap.size wc w11 := hS.1.2.trans (hk.mono hS.1.2.size)
          have q7 := (hk.cell (p := ⟨wc.heap.size, (t / 32 % 4).toNat, none⟩) (World.block_lt_of_cell? _ _ hS.2)).trans hS.2
          refine hK.out _ _ ?_ (fun hS => ?_)
          · exact ⟨⟨(bcell k7).1, k7⟩, q7⟩
          clear hK K
          try simp only [Act.put, List.getElem_toArray, List.getElem_cons_zero, List.getElem_cons_succ, List.setIfInBounds_toArray, List.set_cons_zero, List.set_cons_succ]
          refine wpAnyH_take (i := 19) (v := ?_) rfl (by kernel_rfl) (by kernel_rfl) (by kernel_rfl) (fun _ _ _ h => h) (Or.inl ⟨by kernel_rfl, ?_⟩) hS ?_
          rotate_left
          · intro w' hS'
            have hq := hS'.1
            have hq2 := hS'.2
            clear hS'
            first | (go_simp; done) | (go_simp; with_reducible rfl)
          try simp only [Act.put, List.getElem_toArray, List.getElem_cons_zero, List.getElem_cons_succ, List.setIfInBounds_toArray, List.set_cons_zero, List.set_cons_succ]
          refine wpAnyH_done (by kernel_rfl) ?_ _
          go_wp2
          go_ret
          exact ⟨rfl, hkwc.out.trans' hS.1.2⟩
end Go.Proofs.YtfoeihbajichpaaDoor
