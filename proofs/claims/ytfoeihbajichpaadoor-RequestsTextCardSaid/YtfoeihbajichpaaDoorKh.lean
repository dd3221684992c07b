

/- The law's own text of a request. The numbers lie in their kinds; the table of powers is as the program lays it. -/
import Derived.Test.YtfoeihbajichpaaDoorChecked
import Derived.Deep.RegionHeld3
import Derived.Deep.DrawnRows
import Derived.Deep.DeepCutAuto
import Derived.Deep.LoopGhost
import Derived.Outline
import Derived.Handy
import Derived.OwnWalk
import Derived.Laws.EntriesVeiled
import Derived.Laws.Concat
import Derived.Test.YtfoeihbajichpaaDoorSl
import Derived.Test.YtfoeihbajichpaaDoorSd
set_option linter.unusedVariables false
set_option linter.unusedSimpArgs false
set_option linter.unusedSectionVars false
namespace Go.Proofs.YtfoeihbajichpaaDoor
open Go.RowKit Go.Lib Go.Maps Go.WideShapes
attribute [local go_sem ↓] Go.wp_at_zero Go.wp_at_succ

theorem addB (a b : List UInt8) : B8 a ++ (⟨#[32]⟩ ++ B8 b) = B8 (a ++ 32 :: b) := by
  refine B8_inj ?_
  simp [B8, ByteArray.data_append]
theorem addS (a : List UInt8) : B8 a ++ ⟨#[32]⟩ = B8 (a ++ [32]) := by
  refine B8_inj ?_
  simp [B8, ByteArray.data_append]
theorem addP (a b : List UInt8) : B8 a ++ B8 b = B8 (a ++ b) := by
  refine B8_inj ?_
  simp [B8, ByteArray.data_append]
theorem way_in {t : Int} (h : 128 ≤ t) : (⟨#[105, 110]⟩ : ByteArray) = B8 (wayW t) := by unfold wayW; rw [if_pos h]; rfl
theorem way_out {t : Int} (h : t < 128) : (⟨#[111, 117, 116]⟩ : ByteArray) = B8 (wayW t) := by unfold wayW; rw [if_neg (by omega)]; rfl
theorem kind_0 {t : Int} (h : t / 32 % 4 = 0) : (⟨#[115, 116, 97, 110, 100, 97, 114, 100]⟩ : ByteArray) = B8 (kindW t) := by unfold kindW; rw [h]; rfl
theorem kind_1 {t : Int} (h : t / 32 % 4 = 1) : (⟨#[99, 108, 97, 115, 115]⟩ : ByteArray) = B8 (kindW t) := by unfold kindW; rw [h]; rfl
theorem kind_2 {t : Int} (h : t / 32 % 4 = 2) : (⟨#[118, 101, 110, 100, 111, 114]⟩ : ByteArray) = B8 (kindW t) := by unfold kindW; rw [h]; rfl
theorem kind_3 {t : Int} (h : t / 32 % 4 = 3) : (⟨#[114, 101, 115, 101, 114, 118, 101, 100]⟩ : ByteArray) = B8 (kindW t) := by unfold kindW; rw [h]; rfl
theorem whom_0 {t : Int} (h : t % 32 = 0) : (⟨#[100, 101, 118, 105, 99, 101]⟩ : ByteArray) = B8 (whomW t) := by unfold whomW; rw [h]; rfl
theorem whom_1 {t : Int} (h : t % 32 = 1) : (⟨#[105, 110, 116, 101, 114, 102, 97, 99, 101]⟩ : ByteArray) = B8 (whomW t) := by unfold whomW; rw [h]; rfl
theorem whom_2 {t : Int} (h : t % 32 = 2) : (⟨#[101, 110, 100, 112, 111, 105, 110, 116]⟩ : ByteArray) = B8 (whomW t) := by unfold whomW; rw [h]; rfl
theorem whom_3 {t : Int} (h : t % 32 = 3) : (⟨#[111, 116, 104, 101, 114]⟩ : ByteArray) = B8 (whomW t) := by unfold whomW; rw [h]; rfl
theorem whom_n {t : Int} (h : 4 ≤ t % 32) : B8 (Lib.itoa (t % 32)) = B8 (whomW t) := by unfold whomW; rw [if_neg (by omega)]
theorem code_y {t c : Int} (h : t / 32 % 4 = 0) (hn : nameW c ≠ []) : B8 (nameW c) = B8 (codeW t c) := by unfold codeW; rw [if_pos ⟨h, hn⟩]
theorem code_n {t c : Int} (h : ¬ (t / 32 % 4 = 0 ∧ nameW c ≠ [])) : B8 (Lib.itoa c) = B8 (codeW t c) := by unfold codeW; rw [if_neg h]
theorem wrapK {c : Int} (h0 : 0 ≤ c) (h1 : c < 9223372036854775808) : IntKind.i64.wrap c = c := by rw [IntKind.wrap_i64]; omega
theorem str_eq {a b : ByteArray} (h : a = b) : Value.string a = .string b := by rw [h]
theorem ret_str {a b : ByteArray} (h : a = b) : Ending.returned (.string a) = .returned (.string b) := by rw [h]
theorem text_eq (t c v x l : Int) : B8 (((wayW t ++ 32 :: kindW t) ++ 32 :: whomW t) ++ 32 :: codeW t c) ++ ⟨#[32]⟩ ++ B8 (Lib.itoa v) ++ ⟨#[32]⟩ ++ B8 (Lib.itoa x) ++ ⟨#[32]⟩ ++ B8 (Lib.itoa l) = textB ⟨t, c, v, x, l⟩ := by
  simp only [addS, addP]
  unfold textB
  congr 1
  simp [textL, wordsL, Lib.join, List.intercalate, List.intersperse]
theorem way_len (t : Int) : (wayW t).length ≤ 3 := by unfold wayW; split <;> decide
theorem getD_len {l : List (List UInt8)} {n : Nat} (h : ∀ x ∈ l, x.length ≤ n) (k : Nat) : (l.getD k []).length ≤ n := by
  rw [List.getD_eq_getElem?_getD]
  cases hk : l[k]? with
  | none => simp
  | some x => exact h x (List.mem_of_getElem? hk)
theorem kind_len (t : Int) : (kindW t).length ≤ 8 := getD_len (l := kindsL) (by decide) _
theorem whom_len {t : Int} (h : 0 ≤ t) : (whomW t).length ≤ 21 := by
  unfold whomW; split
  · exact Nat.le_trans (getD_len (l := whomL) (n := 9) (by decide) _) (by decide)
  · exact itoa_small (by omega) (by omega)
theorem code_len {t c : Int} (h : 0 ≤ c) (h1 : c < 256) : (codeW t c).length ≤ 21 := by
  unfold codeW; split
  · exact getD_len (l := namesL) (by decide) _
  · exact itoa_small (by omega) (by omega)
set_option maxRecDepth 100000 in
set_option maxHeartbeats 8000000 in
theorem lawtext_inWordName (t c v x l : Int) (w : World) (hok : Rq.ok ⟨t, c, v, x, l⟩) (hT : Tabs w) (hI : 128 ≤ t) (hM : t % 32 < 4) (hC : t / 32 % 4 = 0 ∧ nameW c ≠ []) :
    Calls Tryd.prog 19 #[.agg #[.int .u8 (t), .int .u8 (c), .int .u16 (v), .int .u16 (x), .int .u16 (l)]] w fun e w' => e = .returned (.string (textB ⟨t, c, v, x, l⟩)) ∧ Kept w w' := by
  obtain ⟨⟨t0, t1⟩, ⟨c0, c1⟩, ⟨v0, v1⟩, ⟨x0, x1⟩, ⟨l0, l1⟩⟩ := hok
  dsimp only at t0 t1 c0 c1 v0 v1 x0 x1 l0 l1
  have HE := Lib.hid (text_eq t c v x l)
  have n0 := Lib.hid (way_len t)
  have n1 := Lib.hid (kind_len t)
  have n2 := Lib.hid (whom_len t0)
  have n3 := Lib.hid (code_len (t := t) c0 c1)
  have n4 := Lib.hid (itoa_small v0 v1)
  have n5 := Lib.hid (itoa_small x0 x1)
  have n6 := Lib.hid (itoa_small l0 l1)
  have n7 := Lib.hid (itoa_small (n := t % 32) (by omega) (by omega))
  have n8 := Lib.hid (itoa_small c0 (by omega))
  have HNR := fun W (h : Tabs W) => itoa_any (t % 32) W (by omega) (by omega) h
  have HNC := fun W (h : Tabs W) => itoa_any c W (by omega) (by omega) h
  have HNV := fun W (h : Tabs W) => itoa_any v W (by omega) (by omega) h
  have HNX := fun W (h : Tabs W) => itoa_any x W (by omega) (by omega) h
  have HNL := fun W (h : Tabs W) => itoa_any l W (by omega) (by omega) h
  have HNM := fun W => nameL_any c W c0 c1
  have HWY := Lib.hid (way_in hI)
  have hd : decide (128 ≤ t) = true := decide_eq_true hI
  have hd4 : decide (t % 32 < 4) = true := decide_eq_true hM
  have HM := Lib.hid hM
  have HC := Lib.hid hC
  clear hI hM hC
  go_enter Tryd.func19, Tryd.ntmps19
  go_upto_region 5 with (fail)
  refine wp_at (fun W => W.heap[w.heap.size]? = some (.cells #[.int .u8 (t), .int .u8 (c), .int .u16 (v), .int .u16 (x), .int .u16 (l)] 25 (0, 0)) ∧ Kept w W) ⟨heap_at _ rfl, by go_grown⟩ (fun W hW => ?_)
  obtain ⟨HX, hkW⟩ := hW
  have HTW := Lib.hid (hT.kept hkW)
  clear hT
  have z0 := cell_heap HX (o := 0) rfl
  have z1 := cell_heap HX (o := 1) rfl
  have z2 := cell_heap HX (o := 2) rfl
  have z3 := cell_heap HX (o := 3) rfl
  have z4 := cell_heap HX (o := 4) rfl
  have hxl := heap_lt HX
  rw [HWY.out]
  go_cut [3] (fun s3 wc => s3 = .string (B8 (wayW t ++ 32 :: kindW t)) ∧ Kept W wc)
  case first =>
    have hz : (B8 (wayW t)).size ≤ 3 := n0.out
    have hk : t / 32 % 4 = 0 ∨ t / 32 % 4 = 1 ∨ t / 32 % 4 = 2 ∨ t / 32 % 4 = 3 := by omega
    rcases hk with h | h | h | h
    · have HK := Lib.hid (kind_0 h)
      have hy : ¬ 9223372036854775807 < (B8 (wayW t)).size + 9 := by omega
      go_wp2
      go_meet
      exact ⟨str_eq (by rw [HK.out, addB]), by go_grown⟩
    · have HK := Lib.hid (kind_1 h)
      have hy : ¬ 9223372036854775807 < (B8 (wayW t)).size + 6 := by omega
      go_wp2
      go_meet
      exact ⟨str_eq (by rw [HK.out, addB]), by go_grown⟩
    · have HK := Lib.hid (kind_2 h)
      have hy : ¬ 9223372036854775807 < (B8 (wayW t)).size + 7 := by omega
      go_wp2
      go_meet
      exact ⟨str_eq (by rw [HK.out, addB]), by go_grown⟩
    · have HK := Lib.hid (kind_3 h)
      have hy : ¬ 9223372036854775807 < (B8 (wayW t)).size + 9 := by omega
      go_wp2
      go_meet
      exact ⟨str_eq (by rw [HK.out, addB]), by go_grown⟩
  case rest =>
    obtain ⟨rfl, hk1⟩ := hcut
    have hy1 : (B8 (wayW t ++ 32 :: kindW t)).size ≤ 20 := by have := n0.out; have := n1.out; rw [B8_size]; simp; omega
    replace HX := heap_kept hk1 HX
    clear z0 z1 z2 z3 z4 hxl
    have z0 := cell_heap HX (o := 0) rfl
    have z1 := cell_heap HX (o := 1) rfl
    have z2 := cell_heap HX (o := 2) rfl
    have z3 := cell_heap HX (o := 3) rfl
    have z4 := cell_heap HX (o := 4) rfl
    have hxl := heap_lt HX
    have hT1 := Lib.hid (HTW.out.kept hk1)
    have hkA := hkW.trans' hk1
    clear hk1
    generalize hA : wayW t ++ 32 :: kindW t = A1 at *
    refine (show ∀ (a : Act) (w : World), Code.wp Tryd.prog _ _ a w → _ from by assumption) _ _ ?_
    go_upto_region 7 with (fail)
    go_cut [3] (fun s3 wd => s3 = .string (B8 (A1 ++ 32 :: whomW t)) ∧ Kept wc wd)
    case first =>
      have hk4 : t % 32 = 0 ∨ t % 32 = 1 ∨ t % 32 = 2 ∨ t % 32 = 3 := by have := HM.out; omega
      rcases hk4 with h | h | h | h
      · have HK := Lib.hid (whom_0 h)
        have h4 : t % 4 = 0 := by omega
        have hy : ¬ 9223372036854775807 < (B8 A1).size + 7 := by omega
        go_wp2
        go_meet
        exact ⟨str_eq (by rw [HK.out, addB]), by go_grown⟩
      · have HK := Lib.hid (whom_1 h)
        have h4 : t % 4 = 1 := by omega
        have hy : ¬ 9223372036854775807 < (B8 A1).size + 10 := by omega
        go_wp2
        go_meet
        exact ⟨str_eq (by rw [HK.out, addB]), by go_grown⟩
      · have HK := Lib.hid (whom_2 h)
        have h4 : t % 4 = 2 := by omega
        have hy : ¬ 9223372036854775807 < (B8 A1).size + 9 := by omega
        go_wp2
        go_meet
        exact ⟨str_eq (by rw [HK.out, addB]), by go_grown⟩
      · have HK := Lib.hid (whom_3 h)
        have h4 : t % 4 = 3 := by omega
        have hy : ¬ 9223372036854775807 < (B8 A1).size + 6 := by omega
        go_wp2
        go_meet
        exact ⟨str_eq (by rw [HK.out, addB]), by go_grown⟩
    case rest =>
      obtain ⟨rfl, hk2⟩ := hcut
      replace HX := heap_kept hk2 HX
      clear z0 z1 z2 z3 z4 hxl
      have z0 := cell_heap HX (o := 0) rfl
      have z1 := cell_heap HX (o := 1) rfl
      have z2 := cell_heap HX (o := 2) rfl
      have z3 := cell_heap HX (o := 3) rfl
      have z4 := cell_heap HX (o := 4) rfl
      have hxl := heap_lt HX
      have hT2 := Lib.hid (hT1.out.kept hk2)
      have hkB := hkA.trans' hk2
      have hy2 : (B8 (A1 ++ 32 :: whomW t)).size ≤ 50 := by have := n2.out; rw [B8_size] at *; simp; omega
      clear hk2 hkA hT1 hy1
      generalize hA2 : A1 ++ 32 :: whomW t = A2 at *
      have hc1 := Lib.hid HC.out.1
      have hb : t / 32 % 4 = 0 := HC.out.1
      have hnn : (!(B8 (nameW c)).toList.isEmpty) = true := by
        have := HC.out.2
        simp [B8, ByteArray.toList_eq, this]
      have hne : (B8 (nameW c)).toList ≠ [] := by
        have := HC.out.2
        simp [B8, ByteArray.toList_eq, this]
      refine (show ∀ (a : Act) (w : World), Code.wp Tryd.prog _ _ a w → _ from by assumption) _ _ ?_
      go_upto_region 10 with (go_at_call 34; refine (HNM _).mono ?_; rintro e w3 ⟨rfl, rfl⟩)
      refine wp_at (fun W2 => W2.heap[w.heap.size]? = some (.cells #[.int .u8 (t), .int .u8 (c), .int .u16 (v), .int .u16 (x), .int .u16 (l)] 25 (0, 0)) ∧ Tabs W2 ∧ Kept w W2) ⟨HX, hT2.out, hkB⟩ (fun wd hWd => ?_)
      clear HX hT2 hkB z0 z1 z2 z3 z4 hxl
      obtain ⟨HX, hT2, hkB⟩ := hWd
      replace hT2 := Lib.hid hT2
      have z0 := cell_heap HX (o := 0) rfl
      have z1 := cell_heap HX (o := 1) rfl
      have z2 := cell_heap HX (o := 2) rfl
      have z3 := cell_heap HX (o := 3) rfl
      have z4 := cell_heap HX (o := 4) rfl
      have hxl := heap_lt HX
      go_cut [3] (fun s3 we => s3 = .string (B8 (A2 ++ 32 :: codeW t c)) ∧ Kept wd we)
      case first =>
        have hk6 := Lib.hid (code_y HC.out.1 HC.out.2)
        have hq : (B8 (nameW c)).size ≤ 21 := by rw [hk6.out]; exact n3.out
        have hq1 : ¬ 9223372036854775807 < 1 + (B8 (nameW c)).size := by omega
        have hy : ¬ 9223372036854775807 < (B8 A2).size + (1 + (B8 (nameW c)).size) := by omega
        go_wp2_with (go_at_call 34; refine (HNM _).mono ?_; rintro e w3 ⟨rfl, rfl⟩)
        go_meet
        exact ⟨str_eq (by rw [hk6.out, addB]), Below.refl _ _⟩
      case rest =>
        obtain ⟨rfl, hk3⟩ := hcut
        replace HX := heap_kept hk3 HX
        clear z0 z1 z2 z3 z4 hxl
        have z0 := cell_heap HX (o := 0) rfl
        have z1 := cell_heap HX (o := 1) rfl
        have z2 := cell_heap HX (o := 2) rfl
        have z3 := cell_heap HX (o := 3) rfl
        have z4 := cell_heap HX (o := 4) rfl
        have hxl := heap_lt HX
        have hT3 := Lib.hid (hT2.out.kept hk3)
        have hkC := hkB.trans' hk3
        have hy3 : (B8 (A2 ++ 32 :: codeW t c)).size ≤ 80 := by have := n3.out; rw [B8_size] at *; simp; omega
        clear hA2 hk3 hkB hT2 hy2
        generalize A2 ++ 32 :: codeW t c = A3 at *
        have q4 : (B8 (Lib.itoa v)).size ≤ 21 := n4.out
        have q5 : (B8 (Lib.itoa x)).size ≤ 21 := n5.out
        have q6 : (B8 (Lib.itoa l)).size ≤ 21 := n6.out
        generalize B8 (Lib.itoa v) = V4 at *
        generalize B8 (Lib.itoa x) = X5 at *
        generalize B8 (Lib.itoa l) = L6 at *
        have f1 : ¬ 9223372036854775807 < (B8 A3).size + 1 := by omega
        have f2 : ¬ 9223372036854775807 < (B8 A3).size + 1 + V4.size := by omega
        have f3 : ¬ 9223372036854775807 < (B8 A3).size + 1 + V4.size + 1 := by omega
        have f4 : ¬ 9223372036854775807 < (B8 A3).size + 1 + V4.size + 1 + X5.size := by omega
        have f5 : ¬ 9223372036854775807 < (B8 A3).size + 1 + V4.size + 1 + X5.size + 1 := by omega
        have f6 : ¬ 9223372036854775807 < (B8 A3).size + 1 + V4.size + 1 + X5.size + 1 + L6.size := by omega
        refine (show ∀ (a : Act) (w : World), Code.wp Tryd.prog _ _ a w → _ from by assumption) _ _ ?_
        have hwv := wrapK v0 (by omega)
        have hwx := wrapK x0 (by omega)
        have hwl := wrapK l0 (by omega)
        go_upto_region 12 with (fail)
        refine wp_at (fun W2 => W2.heap[w.heap.size]? = some (.cells #[.int .u8 (t), .int .u8 (c), .int .u16 (v), .int .u16 (x), .int .u16 (l)] 25 (0, 0)) ∧ Tabs W2 ∧ Kept w W2) ⟨HX, hT3.out, hkC⟩ (fun wf hWf => ?_)
        clear HX hT3 hkC z0 z1 z2 z3 z4 hxl
        obtain ⟨HX, hT3, hkC⟩ := hWf
        replace hT3 := Lib.hid hT3
        have z0 := cell_heap HX (o := 0) rfl
        have z1 := cell_heap HX (o := 1) rfl
        have z2 := cell_heap HX (o := 2) rfl
        have z3 := cell_heap HX (o := 3) rfl
        have z4 := cell_heap HX (o := 4) rfl
        have hxl := heap_lt HX
        go_region_held3 (fun w' => (∀ b o, b < wf.heap.size → w'.cell? ⟨b, o, none⟩ = wf.cell? ⟨b, o, none⟩) ∧ Below wf.heap.size wf w') (first | assumption | exact since_start | exact since_keep (by assumption) (Nat.le_refl _) hk) (first
          | (go_at_call 44; refine (HNV _ (hT3.out.kept (Below.mono (by assumption : _ ∧ _).2 (Nat.le_refl _)))).mono ?_; rintro e w1 ⟨rfl, hk⟩; dsimp only)
          | (go_at_call 44; refine (HNX _ (hT3.out.kept (Below.mono (by assumption : _ ∧ _).2 (Nat.le_refl _)))).mono ?_; rintro e w1 ⟨rfl, hk⟩; dsimp only)
          | (go_at_call 44; refine (HNL _ (hT3.out.kept (Below.mono (by assumption : _ ∧ _).2 (Nat.le_refl _)))).mono ?_; rintro e w1 ⟨rfl, hk⟩; dsimp only))
        all_goals go_wp2
        all_goals go_ret
        all_goals exact ⟨ret_str HE.out, hkC.trans' (since_kept (Below.refl _ _) (by assumption) (Nat.le_refl _))⟩
set_option maxRecDepth 100000 in
set_option maxHeartbeats 8000000 in
theorem lawtext_inWordCode (t c v x l : Int) (w : World) (hok : Rq.ok ⟨t, c, v, x, l⟩) (hT : Tabs w) (hI : 128 ≤ t) (hM : t % 32 < 4) (hC : ¬ (t / 32 % 4 = 0 ∧ nameW c ≠ [])) :
    Calls Tryd.prog 19 #[.agg #[.int .u8 (t), .int .u8 (c), .int .u16 (v), .int .u16 (x), .int .u16 (l)]] w fun e w' => e = .returned (.string (textB ⟨t, c, v, x, l⟩)) ∧ Kept w w' := by
  obtain ⟨⟨t0, t1⟩, ⟨c0, c1⟩, ⟨v0, v1⟩, ⟨x0, x1⟩, ⟨l0, l1⟩⟩ := hok
  dsimp only at t0 t1 c0 c1 v0 v1 x0 x1 l0 l1
  have HE := Lib.hid (text_eq t c v x l)
  have n0 := Lib.hid (way_len t)
  have n1 := Lib.hid (kind_len t)
  have n2 := Lib.hid (whom_len t0)
  have n3 := Lib.hid (code_len (t := t) c0 c1)
  have n4 := Lib.hid (itoa_small v0 v1)
  have n5 := Lib.hid (itoa_small x0 x1)
  have n6 := Lib.hid (itoa_small l0 l1)
  have n7 := Lib.hid (itoa_small (n := t % 32) (by omega) (by omega))
  have n8 := Lib.hid (itoa_small c0 (by omega))
  have HNR := fun W (h : Tabs W) => itoa_any (t % 32) W (by omega) (by omega) h
  have HNC := fun W (h : Tabs W) => itoa_any c W (by omega) (by omega) h
  have HNV := fun W (h : Tabs W) => itoa_any v W (by omega) (by omega) h
  have HNX := fun W (h : Tabs W) => itoa_any x W (by omega) (by omega) h
  have HNL := fun W (h : Tabs W) => itoa_any l W (by omega) (by omega) h
  have HNM := fun W => nameL_any c W c0 c1
  have HWY := Lib.hid (way_in hI)
  have hd : decide (128 ≤ t) = true := decide_eq_true hI
  have hd4 : decide (t % 32 < 4) = true := decide_eq_true hM
  have HM := Lib.hid hM
  have HC := Lib.hid hC
  clear hI hM hC
  go_enter Tryd.func19, Tryd.ntmps19
  go_upto_region 5 with (fail)
  refine wp_at (fun W => W.heap[w.heap.size]? = some (.cells #[.int .u8 (t), .int .u8 (c), .int .u16 (v), .int .u16 (x), .int .u16 (l)] 25 (0, 0)) ∧ Kept w W) ⟨heap_at _ rfl, by go_grown⟩ (fun W hW => ?_)
  obtain ⟨HX, hkW⟩ := hW
  have HTW := Lib.hid (hT.kept hkW)
  clear hT
  have z0 := cell_heap HX (o := 0) rfl
  have z1 := cell_heap HX (o := 1) rfl
  have z2 := cell_heap HX (o := 2) rfl
  have z3 := cell_heap HX (o := 3) rfl
  have z4 := cell_heap HX (o := 4) rfl
  have hxl := heap_lt HX
  rw [HWY.out]
  go_cut [3] (fun s3 wc => s3 = .string (B8 (wayW t ++ 32 :: kindW t)) ∧ Kept W wc)
  case first =>
    have hz : (B8 (wayW t)).size ≤ 3 := n0.out
    have hk : t / 32 % 4 = 0 ∨ t / 32 % 4 = 1 ∨ t / 32 % 4 = 2 ∨ t / 32 % 4 = 3 := by omega
    rcases hk with h | h | h | h
    · have HK := Lib.hid (kind_0 h)
      have hy : ¬ 9223372036854775807 < (B8 (wayW t)).size + 9 := by omega
      go_wp2
      go_meet
      exact ⟨str_eq (by rw [HK.out, addB]), by go_grown⟩
    · have HK := Lib.hid (kind_1 h)
      have hy : ¬ 9223372036854775807 < (B8 (wayW t)).size + 6 := by omega
      go_wp2
      go_meet
      exact ⟨str_eq (by rw [HK.out, addB]), by go_grown⟩
    · have HK := Lib.hid (kind_2 h)
      have hy : ¬ 9223372036854775807 < (B8 (wayW t)).size + 7 := by omega
      go_wp2
      go_meet
      exact ⟨str_eq (by rw [HK.out, addB]), by go_grown⟩
    · have HK := Lib.hid (kind_3 h)
      have hy : ¬ 9223372036854775807 < (B8 (wayW t)).size + 9 := by omega
      go_wp2
      go_meet
      exact ⟨str_eq (by rw [HK.out, addB]), by go_grown⟩
  case rest =>
    obtain ⟨rfl, hk1⟩ := hcut
    have hy1 : (B8 (wayW t ++ 32 :: kindW t)).size ≤ 20 := by have := n0.out; have := n1.out; rw [B8_size]; simp; omega
    replace HX := heap_kept hk1 HX
    clear z0 z1 z2 z3 z4 hxl
    have z0 := cell_heap HX (o := 0) rfl
    have z1 := cell_heap HX (o := 1) rfl
    have z2 := cell_heap HX (o := 2) rfl
    have z3 := cell_heap HX (o := 3) rfl
    have z4 := cell_heap HX (o := 4) rfl
    have hxl := heap_lt HX
    have hT1 := Lib.hid (HTW.out.kept hk1)
    have hkA := hkW.trans' hk1
    clear hk1
    generalize hA : wayW t ++ 32 :: kindW t = A1 at *
    refine (show ∀ (a : Act) (w : World), Code.wp Tryd.prog _ _ a w → _ from by assumption) _ _ ?_
    go_upto_region 7 with (fail)
    go_cut [3] (fun s3 wd => s3 = .string (B8 (A1 ++ 32 :: whomW t)) ∧ Kept wc wd)
    case first =>
      have hk4 : t % 32 = 0 ∨ t % 32 = 1 ∨ t % 32 = 2 ∨ t % 32 = 3 := by have := HM.out; omega
      rcases hk4 with h | h | h | h
      · have HK := Lib.hid (whom_0 h)
        have h4 : t % 4 = 0 := by omega
        have hy : ¬ 9223372036854775807 < (B8 A1).size + 7 := by omega
        go_wp2
        go_meet
        exact ⟨str_eq (by rw [HK.out, addB]), by go_grown⟩
      · have HK := Lib.hid (whom_1 h)
        have h4 : t % 4 = 1 := by omega
        have hy : ¬ 9223372036854775807 < (B8 A1).size + 10 := by omega
        go_wp2
        go_meet
        exact ⟨str_eq (by rw [HK.out, addB]), by go_grown⟩
      · have HK := Lib.hid (whom_2 h)
        have h4 : t % 4 = 2 := by omega
        have hy : ¬ 9223372036854775807 < (B8 A1).size + 9 := by omega
        go_wp2
        go_meet
        exact ⟨str_eq (by rw [HK.out, addB]), by go_grown⟩
      · have HK := Lib.hid (whom_3 h)
        have h4 : t % 4 = 3 := by omega
        have hy : ¬ 9223372036854775807 < (B8 A1).size + 6 := by omega
        go_wp2
        go_meet
        exact ⟨str_eq (by rw [HK.out, addB]), by go_grown⟩
    case rest =>
      obtain ⟨rfl, hk2⟩ := hcut
      replace HX := heap_kept hk2 HX
      clear z0 z1 z2 z3 z4 hxl
      have z0 := cell_heap HX (o := 0) rfl
      have z1 := cell_heap HX (o := 1) rfl
      have z2 := cell_heap HX (o := 2) rfl
      have z3 := cell_heap HX (o := 3) rfl
      have z4 := cell_heap HX (o := 4) rfl
      have hxl := heap_lt HX
      have hT2 := Lib.hid (hT1.out.kept hk2)
      have hkB := hkA.trans' hk2
      have hy2 : (B8 (A1 ++ 32 :: whomW t)).size ≤ 50 := by have := n2.out; rw [B8_size] at *; simp; omega
      clear hk2 hkA hT1 hy1
      generalize hA2 : A1 ++ 32 :: whomW t = A2 at *
      have hnk := HC.out
      have hcase : ∃ b : Bool, (t / 32 % 4 == 0) = b ∧ (b = true → (B8 (nameW c)).toList = []) := by
        by_cases h : t / 32 % 4 = 0
        · refine ⟨true, by simpa using h, fun _ => ?_⟩
          have : nameW c = [] := by
            by_cases hn : nameW c = []
            · exact hn
            · exact absurd ⟨h, hn⟩ hnk
          simp [B8, ByteArray.toList_eq, this]
        · exact ⟨false, by simpa using h, fun h => by cases h⟩
      obtain ⟨bk, hbk, hnk2⟩ := hcase
      clear hnk
      have Hnk2 := Lib.hid hnk2
      clear hnk2
      cases bk
      · clear Hnk2
        refine (show ∀ (a : Act) (w : World), Code.wp Tryd.prog _ _ a w → _ from by assumption) _ _ ?_
        go_upto_region 11 with (go_at_call 34; refine (HNM _).mono ?_; rintro e w3 ⟨rfl, rfl⟩)
        refine wp_at (fun W2 => W2.heap[w.heap.size]? = some (.cells #[.int .u8 (t), .int .u8 (c), .int .u16 (v), .int .u16 (x), .int .u16 (l)] 25 (0, 0)) ∧ Tabs W2 ∧ Kept w W2) ⟨HX, hT2.out, hkB⟩ (fun wd hWd => ?_)
        clear HX hT2 hkB z0 z1 z2 z3 z4 hxl
        obtain ⟨HX, hT2, hkB⟩ := hWd
        replace hT2 := Lib.hid hT2
        have z0 := cell_heap HX (o := 0) rfl
        have z1 := cell_heap HX (o := 1) rfl
        have z2 := cell_heap HX (o := 2) rfl
        have z3 := cell_heap HX (o := 3) rfl
        have z4 := cell_heap HX (o := 4) rfl
        have hxl := heap_lt HX
        go_cut [3] (fun s3 we => s3 = .string (B8 (A2 ++ 32 :: codeW t c)) ∧ Kept wd we)
        case first =>
          have hk6 := Lib.hid (code_n HC.out)
          have hq : (B8 (Lib.itoa c)).size ≤ 21 := n8.out
          have hq1 : ¬ 9223372036854775807 < 1 + (B8 (Lib.itoa c)).size := by omega
          have hy : ¬ 9223372036854775807 < (B8 A2).size + (1 + (B8 (Lib.itoa c)).size) := by omega
          go_wp2_with (go_at_call 44; refine (HNC _ hT2.out).mono ?_; rintro e w3 ⟨rfl, hk5⟩)
          go_meet
          exact ⟨str_eq (by rw [hk6.out, addB]), hk5⟩
        case rest =>
          obtain ⟨rfl, hk3⟩ := hcut
          replace HX := heap_kept hk3 HX
          clear z0 z1 z2 z3 z4 hxl
          have z0 := cell_heap HX (o := 0) rfl
          have z1 := cell_heap HX (o := 1) rfl
          have z2 := cell_heap HX (o := 2) rfl
          have z3 := cell_heap HX (o := 3) rfl
          have z4 := cell_heap HX (o := 4) rfl
          have hxl := heap_lt HX
          have hT3 := Lib.hid (hT2.out.kept hk3)
          have hkC := hkB.trans' hk3
          have hy3 : (B8 (A2 ++ 32 :: codeW t c)).size ≤ 80 := by have := n3.out; rw [B8_size] at *; simp; omega
          clear hA2 hk3 hkB hT2 hy2
          generalize A2 ++ 32 :: codeW t c = A3 at *
          have q4 : (B8 (Lib.itoa v)).size ≤ 21 := n4.out
          have q5 : (B8 (Lib.itoa x)).size ≤ 21 := n5.out
          have q6 : (B8 (Lib.itoa l)).size ≤ 21 := n6.out
          generalize B8 (Lib.itoa v) = V4 at *
          generalize B8 (Lib.itoa x) = X5 at *
          generalize B8 (Lib.itoa l) = L6 at *
          have f1 : ¬ 9223372036854775807 < (B8 A3).size + 1 := by omega
          have f2 : ¬ 9223372036854775807 < (B8 A3).size + 1 + V4.size := by omega
          have f3 : ¬ 9223372036854775807 < (B8 A3).size + 1 + V4.size + 1 := by omega
          have f4 : ¬ 9223372036854775807 < (B8 A3).size + 1 + V4.size + 1 + X5.size := by omega
          have f5 : ¬ 9223372036854775807 < (B8 A3).size + 1 + V4.size + 1 + X5.size + 1 := by omega
          have f6 : ¬ 9223372036854775807 < (B8 A3).size + 1 + V4.size + 1 + X5.size + 1 + L6.size := by omega
          refine (show ∀ (a : Act) (w : World), Code.wp Tryd.prog _ _ a w → _ from by assumption) _ _ ?_
          have hwv := wrapK v0 (by omega)
          have hwx := wrapK x0 (by omega)
          have hwl := wrapK l0 (by omega)
          go_upto_region 12 with (fail)
          refine wp_at (fun W2 => W2.heap[w.heap.size]? = some (.cells #[.int .u8 (t), .int .u8 (c), .int .u16 (v), .int .u16 (x), .int .u16 (l)] 25 (0, 0)) ∧ Tabs W2 ∧ Kept w W2) ⟨HX, hT3.out, hkC⟩ (fun wf hWf => ?_)
          clear HX hT3 hkC z0 z1 z2 z3 z4 hxl
          obtain ⟨HX, hT3, hkC⟩ := hWf
          replace hT3 := Lib.hid hT3
          have z0 := cell_heap HX (o := 0) rfl
          have z1 := cell_heap HX (o := 1) rfl
          have z2 := cell_heap HX (o := 2) rfl
          have z3 := cell_heap HX (o := 3) rfl
          have z4 := cell_heap HX (o := 4) rfl
          have hxl := heap_lt HX
          go_region_held3 (fun w' => (∀ b o, b < wf.heap.size → w'.cell? ⟨b, o, none⟩ = wf.cell? ⟨b, o, none⟩) ∧ Below wf.heap.size wf w') (first | assumption | exact since_start | exact since_keep (by assumption) (Nat.le_refl _) hk) (first
            | (go_at_call 44; refine (HNV _ (hT3.out.kept (Below.mono (by assumption : _ ∧ _).2 (Nat.le_refl _)))).mono ?_; rintro e w1 ⟨rfl, hk⟩; dsimp only)
            | (go_at_call 44; refine (HNX _ (hT3.out.kept (Below.mono (by assumption : _ ∧ _).2 (Nat.le_refl _)))).mono ?_; rintro e w1 ⟨rfl, hk⟩; dsimp only)
            | (go_at_call 44; refine (HNL _ (hT3.out.kept (Below.mono (by assumption : _ ∧ _).2 (Nat.le_refl _)))).mono ?_; rintro e w1 ⟨rfl, hk⟩; dsimp only))
          all_goals go_wp2
          all_goals go_ret
          all_goals exact ⟨ret_str HE.out, hkC.trans' (since_kept (Below.refl _ _) (by assumption) (Nat.le_refl _))⟩
      · have hnn := Hnk2.out rfl
        clear Hnk2
        refine (show ∀ (a : Act) (w : World), Code.wp Tryd.prog _ _ a w → _ from by assumption) _ _ ?_
        go_upto_region 11 with (go_at_call 34; refine (HNM _).mono ?_; rintro e w3 ⟨rfl, rfl⟩)
        refine wp_at (fun W2 => W2.heap[w.heap.size]? = some (.cells #[.int .u8 (t), .int .u8 (c), .int .u16 (v), .int .u16 (x), .int .u16 (l)] 25 (0, 0)) ∧ Tabs W2 ∧ Kept w W2) ⟨HX, hT2.out, hkB⟩ (fun wd hWd => ?_)
        clear HX hT2 hkB z0 z1 z2 z3 z4 hxl
        obtain ⟨HX, hT2, hkB⟩ := hWd
        replace hT2 := Lib.hid hT2
        have z0 := cell_heap HX (o := 0) rfl
        have z1 := cell_heap HX (o := 1) rfl
        have z2 := cell_heap HX (o := 2) rfl
        have z3 := cell_heap HX (o := 3) rfl
        have z4 := cell_heap HX (o := 4) rfl
        have hxl := heap_lt HX
        go_cut [3] (fun s3 we => s3 = .string (B8 (A2 ++ 32 :: codeW t c)) ∧ Kept wd we)
        case first =>
          have hk6 := Lib.hid (code_n HC.out)
          have hq : (B8 (Lib.itoa c)).size ≤ 21 := n8.out
          have hq1 : ¬ 9223372036854775807 < 1 + (B8 (Lib.itoa c)).size := by omega
          have hy : ¬ 9223372036854775807 < (B8 A2).size + (1 + (B8 (Lib.itoa c)).size) := by omega
          go_wp2_with (go_at_call 44; refine (HNC _ hT2.out).mono ?_; rintro e w3 ⟨rfl, hk5⟩)
          go_meet
          exact ⟨str_eq (by rw [hk6.out, addB]), hk5⟩
        case rest =>
          obtain ⟨rfl, hk3⟩ := hcut
          replace HX := heap_kept hk3 HX
          clear z0 z1 z2 z3 z4 hxl
          have z0 := cell_heap HX (o := 0) rfl
          have z1 := cell_heap HX (o := 1) rfl
          have z2 := cell_heap HX (o := 2) rfl
          have z3 := cell_heap HX (o := 3) rfl
          have z4 := cell_heap HX (o := 4) rfl
          have hxl := heap_lt HX
          have hT3 := Lib.hid (hT2.out.kept hk3)
          have hkC := hkB.trans' hk3
          have hy3 : (B8 (A2 ++ 32 :: codeW t c)).size ≤ 80 := by have := n3.out; rw [B8_size] at *; simp; omega
          clear hA2 hk3 hkB hT2 hy2
          generalize A2 ++ 32 :: codeW t c = A3 at *
          have q4 : (B8 (Lib.itoa v)).size ≤ 21 := n4.out
          have q5 : (B8 (Lib.itoa x)).size ≤ 21 := n5.out
          have q6 : (B8 (Lib.itoa l)).size ≤ 21 := n6.out
          generalize B8 (Lib.itoa v) = V4 at *
          generalize B8 (Lib.itoa x) = X5 at *
          generalize B8 (Lib.itoa l) = L6 at *
          have f1 : ¬ 9223372036854775807 < (B8 A3).size + 1 := by omega
          have f2 : ¬ 9223372036854775807 < (B8 A3).size + 1 + V4.size := by omega
          have f3 : ¬ 9223372036854775807 < (B8 A3).size + 1 + V4.size + 1 := by omega
          have f4 : ¬ 9223372036854775807 < (B8 A3).size + 1 + V4.size + 1 + X5.size := by omega
          have f5 : ¬ 9223372036854775807 < (B8 A3).size + 1 + V4.size + 1 + X5.size + 1 := by omega
          have f6 : ¬ 9223372036854775807 < (B8 A3).size + 1 + V4.size + 1 + X5.size + 1 + L6.size := by omega
          refine (show ∀ (a : Act) (w : World), Code.wp Tryd.prog _ _ a w → _ from by assumption) _ _ ?_
          have hwv := wrapK v0 (by omega)
          have hwx := wrapK x0 (by omega)
          have hwl := wrapK l0 (by omega)
          go_upto_region 12 with (fail)
          refine wp_at (fun W2 => W2.heap[w.heap.size]? = some (.cells #[.int .u8 (t), .int .u8 (c), .int .u16 (v), .int .u16 (x), .int .u16 (l)] 25 (0, 0)) ∧ Tabs W2 ∧ Kept w W2) ⟨HX, hT3.out, hkC⟩ (fun wf hWf => ?_)
          clear HX hT3 hkC z0 z1 z2 z3 z4 hxl
          obtain ⟨HX, hT3, hkC⟩ := hWf
          replace hT3 := Lib.hid hT3
          have z0 := cell_heap HX (o := 0) rfl
          have z1 := cell_heap HX (o := 1) rfl
          have z2 := cell_heap HX (o := 2) rfl
          have z3 := cell_heap HX (o := 3) rfl
          have z4 := cell_heap HX (o := 4) rfl
          have hxl := heap_lt HX
          go_region_held3 (fun w' => (∀ b o, b < wf.heap.size → w'.cell? ⟨b, o, none⟩ = wf.cell? ⟨b, o, none⟩) ∧ Below wf.heap.size wf w') (first | assumption | exact since_start | exact since_keep (by assumption) (Nat.le_refl _) hk) (first
            | (go_at_call 44; refine (HNV _ (hT3.out.kept (Below.mono (by assumption : _ ∧ _).2 (Nat.le_refl _)))).mono ?_; rintro e w1 ⟨rfl, hk⟩; dsimp only)
            | (go_at_call 44; refine (HNX _ (hT3.out.kept (Below.mono (by assumption : _ ∧ _).2 (Nat.le_refl _)))).mono ?_; rintro e w1 ⟨rfl, hk⟩; dsimp only)
            | (go_at_call 44; refine (HNL _ (hT3.out.kept (Below.mono (by assumption : _ ∧ _).2 (Nat.le_refl _)))).mono ?_; rintro e w1 ⟨rfl, hk⟩; dsimp only))
          all_goals go_wp2
          all_goals go_ret
          all_goals exact ⟨ret_str HE.out, hkC.trans' (since_kept (Below.refl _ _) (by assumption) (Nat.le_refl _))⟩
set_option maxRecDepth 100000 in
set_option maxHeartbeats 8000000 in
theorem lawtext_inNumName (t c v x l : Int) (w : World) (hok : Rq.ok ⟨t, c, v, x, l⟩) (hT : Tabs w) (hI : 128 ≤ t) (hM : 4 ≤ t % 32) (hC : t / 32 % 4 = 0 ∧ nameW c ≠ []) :
    Calls Tryd.prog 19 #[.agg #[.int .u8 (t), .int .u8 (c), .int .u16 (v), .int .u16 (x), .int .u16 (l)]] w fun e w' => e = .returned (.string (textB ⟨t, c, v, x, l⟩)) ∧ Kept w w' := by
  obtain ⟨⟨t0, t1⟩, ⟨c0, c1⟩, ⟨v0, v1⟩, ⟨x0, x1⟩, ⟨l0, l1⟩⟩ := hok
  dsimp only at t0 t1 c0 c1 v0 v1 x0 x1 l0 l1
  have HE := Lib.hid (text_eq t c v x l)
  have n0 := Lib.hid (way_len t)
  have n1 := Lib.hid (kind_len t)
  have n2 := Lib.hid (whom_len t0)
  have n3 := Lib.hid (code_len (t := t) c0 c1)
  have n4 := Lib.hid (itoa_small v0 v1)
  have n5 := Lib.hid (itoa_small x0 x1)
  have n6 := Lib.hid (itoa_small l0 l1)
  have n7 := Lib.hid (itoa_small (n := t % 32) (by omega) (by omega))
  have n8 := Lib.hid (itoa_small c0 (by omega))
  have HNR := fun W (h : Tabs W) => itoa_any (t % 32) W (by omega) (by omega) h
  have HNC := fun W (h : Tabs W) => itoa_any c W (by omega) (by omega) h
  have HNV := fun W (h : Tabs W) => itoa_any v W (by omega) (by omega) h
  have HNX := fun W (h : Tabs W) => itoa_any x W (by omega) (by omega) h
  have HNL := fun W (h : Tabs W) => itoa_any l W (by omega) (by omega) h
  have HNM := fun W => nameL_any c W c0 c1
  have HWY := Lib.hid (way_in hI)
  have hd : decide (128 ≤ t) = true := decide_eq_true hI
  have hd4 : decide (t % 32 < 4) = false := decide_eq_false (by omega)
  have HM := Lib.hid hM
  have HC := Lib.hid hC
  clear hI hM hC
  go_enter Tryd.func19, Tryd.ntmps19
  go_upto_region 5 with (fail)
  refine wp_at (fun W => W.heap[w.heap.size]? = some (.cells #[.int .u8 (t), .int .u8 (c), .int .u16 (v), .int .u16 (x), .int .u16 (l)] 25 (0, 0)) ∧ Kept w W) ⟨heap_at _ rfl, by go_grown⟩ (fun W hW => ?_)
  obtain ⟨HX, hkW⟩ := hW
  have HTW := Lib.hid (hT.kept hkW)
  clear hT
  have z0 := cell_heap HX (o := 0) rfl
  have z1 := cell_heap HX (o := 1) rfl
  have z2 := cell_heap HX (o := 2) rfl
  have z3 := cell_heap HX (o := 3) rfl
  have z4 := cell_heap HX (o := 4) rfl
  have hxl := heap_lt HX
  rw [HWY.out]
  go_cut [3] (fun s3 wc => s3 = .string (B8 (wayW t ++ 32 :: kindW t)) ∧ Kept W wc)
  case first =>
    have hz : (B8 (wayW t)).size ≤ 3 := n0.out
    have hk : t / 32 % 4 = 0 ∨ t / 32 % 4 = 1 ∨ t / 32 % 4 = 2 ∨ t / 32 % 4 = 3 := by omega
    rcases hk with h | h | h | h
    · have HK := Lib.hid (kind_0 h)
      have hy : ¬ 9223372036854775807 < (B8 (wayW t)).size + 9 := by omega
      go_wp2
      go_meet
      exact ⟨str_eq (by rw [HK.out, addB]), by go_grown⟩
    · have HK := Lib.hid (kind_1 h)
      have hy : ¬ 9223372036854775807 < (B8 (wayW t)).size + 6 := by omega
      go_wp2
      go_meet
      exact ⟨str_eq (by rw [HK.out, addB]), by go_grown⟩
    · have HK := Lib.hid (kind_2 h)
      have hy : ¬ 9223372036854775807 < (B8 (wayW t)).size + 7 := by omega
      go_wp2
      go_meet
      exact ⟨str_eq (by rw [HK.out, addB]), by go_grown⟩
    · have HK := Lib.hid (kind_3 h)
      have hy : ¬ 9223372036854775807 < (B8 (wayW t)).size + 9 := by omega
      go_wp2
      go_meet
      exact ⟨str_eq (by rw [HK.out, addB]), by go_grown⟩
  case rest =>
    obtain ⟨rfl, hk1⟩ := hcut
    have hy1 : (B8 (wayW t ++ 32 :: kindW t)).size ≤ 20 := by have := n0.out; have := n1.out; rw [B8_size]; simp; omega
    replace HX := heap_kept hk1 HX
    clear z0 z1 z2 z3 z4 hxl
    have z0 := cell_heap HX (o := 0) rfl
    have z1 := cell_heap HX (o := 1) rfl
    have z2 := cell_heap HX (o := 2) rfl
    have z3 := cell_heap HX (o := 3) rfl
    have z4 := cell_heap HX (o := 4) rfl
    have hxl := heap_lt HX
    have hT1 := Lib.hid (HTW.out.kept hk1)
    have hkA := hkW.trans' hk1
    clear hk1
    generalize hA : wayW t ++ 32 :: kindW t = A1 at *
    refine (show ∀ (a : Act) (w : World), Code.wp Tryd.prog _ _ a w → _ from by assumption) _ _ ?_
    go_upto_region 8 with (fail)
    go_cut [3] (fun s3 wd => s3 = .string (B8 (A1 ++ 32 :: whomW t)) ∧ Kept wc wd)
    case first =>
      have HK := Lib.hid (whom_n HM.out)
      have hq : (B8 (Lib.itoa (t % 32))).size ≤ 21 := n7.out
      have hq1 : ¬ 9223372036854775807 < 1 + (B8 (Lib.itoa (t % 32))).size := by omega
      have hy : ¬ 9223372036854775807 < (B8 A1).size + (1 + (B8 (Lib.itoa (t % 32))).size) := by omega
      have hr0 : 0 ≤ t % 32 := by omega
      have hr1 : t % 32 < 256 := by omega
      go_wp2_with (go_at_call 44; refine (HNR _ hT1.out).mono ?_; rintro e w2 ⟨rfl, hk2⟩)
      go_meet
      exact ⟨str_eq (by rw [HK.out, addB]), hk2⟩
    case rest =>
      obtain ⟨rfl, hk2⟩ := hcut
      replace HX := heap_kept hk2 HX
      clear z0 z1 z2 z3 z4 hxl
      have z0 := cell_heap HX (o := 0) rfl
      have z1 := cell_heap HX (o := 1) rfl
      have z2 := cell_heap HX (o := 2) rfl
      have z3 := cell_heap HX (o := 3) rfl
      have z4 := cell_heap HX (o := 4) rfl
      have hxl := heap_lt HX
      have hT2 := Lib.hid (hT1.out.kept hk2)
      have hkB := hkA.trans' hk2
      have hy2 : (B8 (A1 ++ 32 :: whomW t)).size ≤ 50 := by have := n2.out; rw [B8_size] at *; simp; omega
      clear hk2 hkA hT1 hy1
      generalize hA2 : A1 ++ 32 :: whomW t = A2 at *
      have hc1 := Lib.hid HC.out.1
      have hb : t / 32 % 4 = 0 := HC.out.1
      have hnn : (!(B8 (nameW c)).toList.isEmpty) = true := by
        have := HC.out.2
        simp [B8, ByteArray.toList_eq, this]
      have hne : (B8 (nameW c)).toList ≠ [] := by
        have := HC.out.2
        simp [B8, ByteArray.toList_eq, this]
      refine (show ∀ (a : Act) (w : World), Code.wp Tryd.prog _ _ a w → _ from by assumption) _ _ ?_
      go_upto_region 10 with (go_at_call 34; refine (HNM _).mono ?_; rintro e w3 ⟨rfl, rfl⟩)
      refine wp_at (fun W2 => W2.heap[w.heap.size]? = some (.cells #[.int .u8 (t), .int .u8 (c), .int .u16 (v), .int .u16 (x), .int .u16 (l)] 25 (0, 0)) ∧ Tabs W2 ∧ Kept w W2) ⟨HX, hT2.out, hkB⟩ (fun wd hWd => ?_)
      clear HX hT2 hkB z0 z1 z2 z3 z4 hxl
      obtain ⟨HX, hT2, hkB⟩ := hWd
      replace hT2 := Lib.hid hT2
      have z0 := cell_heap HX (o := 0) rfl
      have z1 := cell_heap HX (o := 1) rfl
      have z2 := cell_heap HX (o := 2) rfl
      have z3 := cell_heap HX (o := 3) rfl
      have z4 := cell_heap HX (o := 4) rfl
      have hxl := heap_lt HX
      go_cut [3] (fun s3 we => s3 = .string (B8 (A2 ++ 32 :: codeW t c)) ∧ Kept wd we)
      case first =>
        have hk6 := Lib.hid (code_y HC.out.1 HC.out.2)
        have hq : (B8 (nameW c)).size ≤ 21 := by rw [hk6.out]; exact n3.out
        have hq1 : ¬ 9223372036854775807 < 1 + (B8 (nameW c)).size := by omega
        have hy : ¬ 9223372036854775807 < (B8 A2).size + (1 + (B8 (nameW c)).size) := by omega
        go_wp2_with (go_at_call 34; refine (HNM _).mono ?_; rintro e w3 ⟨rfl, rfl⟩)
        go_meet
        exact ⟨str_eq (by rw [hk6.out, addB]), Below.refl _ _⟩
      case rest =>
        obtain ⟨rfl, hk3⟩ := hcut
        replace HX := heap_kept hk3 HX
        clear z0 z1 z2 z3 z4 hxl
        have z0 := cell_heap HX (o := 0) rfl
        have z1 := cell_heap HX (o := 1) rfl
        have z2 := cell_heap HX (o := 2) rfl
        have z3 := cell_heap HX (o := 3) rfl
        have z4 := cell_heap HX (o := 4) rfl
        have hxl := heap_lt HX
        have hT3 := Lib.hid (hT2.out.kept hk3)
        have hkC := hkB.trans' hk3
        have hy3 : (B8 (A2 ++ 32 :: codeW t c)).size ≤ 80 := by have := n3.out; rw [B8_size] at *; simp; omega
        clear hA2 hk3 hkB hT2 hy2
        generalize A2 ++ 32 :: codeW t c = A3 at *
        have q4 : (B8 (Lib.itoa v)).size ≤ 21 := n4.out
        have q5 : (B8 (Lib.itoa x)).size ≤ 21 := n5.out
        have q6 : (B8 (Lib.itoa l)).size ≤ 21 := n6.out
        generalize B8 (Lib.itoa v) = V4 at *
        generalize B8 (Lib.itoa x) = X5 at *
        generalize B8 (Lib.itoa l) = L6 at *
        have f1 : ¬ 9223372036854775807 < (B8 A3).size + 1 := by omega
        have f2 : ¬ 9223372036854775807 < (B8 A3).size + 1 + V4.size := by omega
        have f3 : ¬ 9223372036854775807 < (B8 A3).size + 1 + V4.size + 1 := by omega
        have f4 : ¬ 9223372036854775807 < (B8 A3).size + 1 + V4.size + 1 + X5.size := by omega
        have f5 : ¬ 9223372036854775807 < (B8 A3).size + 1 + V4.size + 1 + X5.size + 1 := by omega
        have f6 : ¬ 9223372036854775807 < (B8 A3).size + 1 + V4.size + 1 + X5.size + 1 + L6.size := by omega
        refine (show ∀ (a : Act) (w : World), Code.wp Tryd.prog _ _ a w → _ from by assumption) _ _ ?_
        have hwv := wrapK v0 (by omega)
        have hwx := wrapK x0 (by omega)
        have hwl := wrapK l0 (by omega)
        go_upto_region 12 with (fail)
        refine wp_at (fun W2 => W2.heap[w.heap.size]? = some (.cells #[.int .u8 (t), .int .u8 (c), .int .u16 (v), .int .u16 (x), .int .u16 (l)] 25 (0, 0)) ∧ Tabs W2 ∧ Kept w W2) ⟨HX, hT3.out, hkC⟩ (fun wf hWf => ?_)
        clear HX hT3 hkC z0 z1 z2 z3 z4 hxl
        obtain ⟨HX, hT3, hkC⟩ := hWf
        replace hT3 := Lib.hid hT3
        have z0 := cell_heap HX (o := 0) rfl
        have z1 := cell_heap HX (o := 1) rfl
        have z2 := cell_heap HX (o := 2) rfl
        have z3 := cell_heap HX (o := 3) rfl
        have z4 := cell_heap HX (o := 4) rfl
        have hxl := heap_lt HX
        go_region_held3 (fun w' => (∀ b o, b < wf.heap.size → w'.cell? ⟨b, o, none⟩ = wf.cell? ⟨b, o, none⟩) ∧ Below wf.heap.size wf w') (first | assumption | exact since_start | exact since_keep (by assumption) (Nat.le_refl _) hk) (first
          | (go_at_call 44; refine (HNV _ (hT3.out.kept (Below.mono (by assumption : _ ∧ _).2 (Nat.le_refl _)))).mono ?_; rintro e w1 ⟨rfl, hk⟩; dsimp only)
          | (go_at_call 44; refine (HNX _ (hT3.out.kept (Below.mono (by assumption : _ ∧ _).2 (Nat.le_refl _)))).mono ?_; rintro e w1 ⟨rfl, hk⟩; dsimp only)
          | (go_at_call 44; refine (HNL _ (hT3.out.kept (Below.mono (by assumption : _ ∧ _).2 (Nat.le_refl _)))).mono ?_; rintro e w1 ⟨rfl, hk⟩; dsimp only))
        all_goals go_wp2
        all_goals go_ret
        all_goals exact ⟨ret_str HE.out, hkC.trans' (since_kept (Below.refl _ _) (by assumption) (Nat.le_refl _))⟩
set_option maxRecDepth 100000 in
set_option maxHeartbeats 8000000 in
theorem lawtext_inNumCode (t c v x l : Int) (w : World) (hok : Rq.ok ⟨t, c, v, x, l⟩) (hT : Tabs w) (hI : 128 ≤ t) (hM : 4 ≤ t % 32) (hC : ¬ (t / 32 % 4 = 0 ∧ nameW c ≠ [])) :
    Calls Tryd.prog 19 #[.agg #[.int .u8 (t), .int .u8 (c), .int .u16 (v), .int .u16 (x), .int .u16 (l)]] w fun e w' => e = .returned (.string (textB ⟨t, c, v, x, l⟩)) ∧ Kept w w' := by
  obtain ⟨⟨t0, t1⟩, ⟨c0, c1⟩, ⟨v0, v1⟩, ⟨x0, x1⟩, ⟨l0, l1⟩⟩ := hok
  dsimp only at t0 t1 c0 c1 v0 v1 x0 x1 l0 l1
  have HE := Lib.hid (text_eq t c v x l)
  have n0 := Lib.hid (way_len t)
  have n1 := Lib.hid (kind_len t)
  have n2 := Lib.hid (whom_len t0)
  have n3 := Lib.hid (code_len (t := t) c0 c1)
  have n4 := Lib.hid (itoa_small v0 v1)
  have n5 := Lib.hid (itoa_small x0 x1)
  have n6 := Lib.hid (itoa_small l0 l1)
  have n7 := Lib.hid (itoa_small (n := t % 32) (by omega) (by omega))
  have n8 := Lib.hid (itoa_small c0 (by omega))
  have HNR := fun W (h : Tabs W) => itoa_any (t % 32) W (by omega) (by omega) h
  have HNC := fun W (h : Tabs W) => itoa_any c W (by omega) (by omega) h
  have HNV := fun W (h : Tabs W) => itoa_any v W (by omega) (by omega) h
  have HNX := fun W (h : Tabs W) => itoa_any x W (by omega) (by omega) h
  have HNL := fun W (h : Tabs W) => itoa_any l W (by omega) (by omega) h
  have HNM := fun W => nameL_any c W c0 c1
  have HWY := Lib.hid (way_in hI)
  have hd : decide (128 ≤ t) = true := decide_eq_true hI
  have hd4 : decide (t % 32 < 4) = false := decide_eq_false (by omega)
  have HM := Lib.hid hM
  have HC := Lib.hid hC
  clear hI hM hC
  go_enter Tryd.func19, Tryd.ntmps19
  go_upto_region 5 with (fail)
  refine wp_at (fun W => W.heap[w.heap.size]? = some (.cells #[.int .u8 (t), .int .u8 (c), .int .u16 (v), .int .u16 (x), .int .u16 (l)] 25 (0, 0)) ∧ Kept w W) ⟨heap_at _ rfl, by go_grown⟩ (fun W hW => ?_)
  obtain ⟨HX, hkW⟩ := hW
  have HTW := Lib.hid (hT.kept hkW)
  clear hT
  have z0 := cell_heap HX (o := 0) rfl
  have z1 := cell_heap HX (o := 1) rfl
  have z2 := cell_heap HX (o := 2) rfl
  have z3 := cell_heap HX (o := 3) rfl
  have z4 := cell_heap HX (o := 4) rfl
  have hxl := heap_lt HX
  rw [HWY.out]
  go_cut [3] (fun s3 wc => s3 = .string (B8 (wayW t ++ 32 :: kindW t)) ∧ Kept W wc)
  case first =>
    have hz : (B8 (wayW t)).size ≤ 3 := n0.out
    have hk : t / 32 % 4 = 0 ∨ t / 32 % 4 = 1 ∨ t / 32 % 4 = 2 ∨ t / 32 % 4 = 3 := by omega
    rcases hk with h | h | h | h
    · have HK := Lib.hid (kind_0 h)
      have hy : ¬ 9223372036854775807 < (B8 (wayW t)).size + 9 := by omega
      go_wp2
      go_meet
      exact ⟨str_eq (by rw [HK.out, addB]), by go_grown⟩
    · have HK := Lib.hid (kind_1 h)
      have hy : ¬ 9223372036854775807 < (B8 (wayW t)).size + 6 := by omega
      go_wp2
      go_meet
      exact ⟨str_eq (by rw [HK.out, addB]), by go_grown⟩
    · have HK := Lib.hid (kind_2 h)
      have hy : ¬ 9223372036854775807 < (B8 (wayW t)).size + 7 := by omega
      go_wp2
      go_meet
      exact ⟨str_eq (by rw [HK.out, addB]), by go_grown⟩
    · have HK := Lib.hid (kind_3 h)
      have hy : ¬ 9223372036854775807 < (B8 (wayW t)).size + 9 := by omega
      go_wp2
      go_meet
      exact ⟨str_eq (by rw [HK.out, addB]), by go_grown⟩
  case rest =>
    obtain ⟨rfl, hk1⟩ := hcut
    have hy1 : (B8 (wayW t ++ 32 :: kindW t)).size ≤ 20 := by have := n0.out; have := n1.out; rw [B8_size]; simp; omega
    replace HX := heap_kept hk1 HX
    clear z0 z1 z2 z3 z4 hxl
    have z0 := cell_heap HX (o := 0) rfl
    have z1 := cell_heap HX (o := 1) rfl
    have z2 := cell_heap HX (o := 2) rfl
    have z3 := cell_heap HX (o := 3) rfl
    have z4 := cell_heap HX (o := 4) rfl
    have hxl := heap_lt HX
    have hT1 := Lib.hid (HTW.out.kept hk1)
    have hkA := hkW.trans' hk1
    clear hk1
    generalize hA : wayW t ++ 32 :: kindW t = A1 at *
    refine (show ∀ (a : Act) (w : World), Code.wp Tryd.prog _ _ a w → _ from by assumption) _ _ ?_
    go_upto_region 8 with (fail)
    go_cut [3] (fun s3 wd => s3 = .string (B8 (A1 ++ 32 :: whomW t)) ∧ Kept wc wd)
    case first =>
      have HK := Lib.hid (whom_n HM.out)
      have hq : (B8 (Lib.itoa (t % 32))).size ≤ 21 := n7.out
      have hq1 : ¬ 9223372036854775807 < 1 + (B8 (Lib.itoa (t % 32))).size := by omega
      have hy : ¬ 9223372036854775807 < (B8 A1).size + (1 + (B8 (Lib.itoa (t % 32))).size) := by omega
      have hr0 : 0 ≤ t % 32 := by omega
      have hr1 : t % 32 < 256 := by omega
      go_wp2_with (go_at_call 44; refine (HNR _ hT1.out).mono ?_; rintro e w2 ⟨rfl, hk2⟩)
      go_meet
      exact ⟨str_eq (by rw [HK.out, addB]), hk2⟩
    case rest =>
      obtain ⟨rfl, hk2⟩ := hcut
      replace HX := heap_kept hk2 HX
      clear z0 z1 z2 z3 z4 hxl
      have z0 := cell_heap HX (o := 0) rfl
      have z1 := cell_heap HX (o := 1) rfl
      have z2 := cell_heap HX (o := 2) rfl
      have z3 := cell_heap HX (o := 3) rfl
      have z4 := cell_heap HX (o := 4) rfl
      have hxl := heap_lt HX
      have hT2 := Lib.hid (hT1.out.kept hk2)
      have hkB := hkA.trans' hk2
      have hy2 : (B8 (A1 ++ 32 :: whomW t)).size ≤ 50 := by have := n2.out; rw [B8_size] at *; simp; omega
      clear hk2 hkA hT1 hy1
      generalize hA2 : A1 ++ 32 :: whomW t = A2 at *
      have hnk := HC.out
      have hcase : ∃ b : Bool, (t / 32 % 4 == 0) = b ∧ (b = true → (B8 (nameW c)).toList = []) := by
        by_cases h : t / 32 % 4 = 0
        · refine ⟨true, by simpa using h, fun _ => ?_⟩
          have : nameW c = [] := by
            by_cases hn : nameW c = []
            · exact hn
            · exact absurd ⟨h, hn⟩ hnk
          simp [B8, ByteArray.toList_eq, this]
        · exact ⟨false, by simpa using h, fun h => by cases h⟩
      obtain ⟨bk, hbk, hnk2⟩ := hcase
      clear hnk
      have Hnk2 := Lib.hid hnk2
      clear hnk2
      cases bk
      · clear Hnk2
        refine (show ∀ (a : Act) (w : World), Code.wp Tryd.prog _ _ a w → _ from by assumption) _ _ ?_
        go_upto_region 11 with (go_at_call 34; refine (HNM _).mono ?_; rintro e w3 ⟨rfl, rfl⟩)
        refine wp_at (fun W2 => W2.heap[w.heap.size]? = some (.cells #[.int .u8 (t), .int .u8 (c), .int .u16 (v), .int .u16 (x), .int .u16 (l)] 25 (0, 0)) ∧ Tabs W2 ∧ Kept w W2) ⟨HX, hT2.out, hkB⟩ (fun wd hWd => ?_)
        clear HX hT2 hkB z0 z1 z2 z3 z4 hxl
        obtain ⟨HX, hT2, hkB⟩ := hWd
        replace hT2 := Lib.hid hT2
        have z0 := cell_heap HX (o := 0) rfl
        have z1 := cell_heap HX (o := 1) rfl
        have z2 := cell_heap HX (o := 2) rfl
        have z3 := cell_heap HX (o := 3) rfl
        have z4 := cell_heap HX (o := 4) rfl
        have hxl := heap_lt HX
        go_cut [3] (fun s3 we => s3 = .string (B8 (A2 ++ 32 :: codeW t c)) ∧ Kept wd we)
        case first =>
          have hk6 := Lib.hid (code_n HC.out)
          have hq : (B8 (Lib.itoa c)).size ≤ 21 := n8.out
          have hq1 : ¬ 9223372036854775807 < 1 + (B8 (Lib.itoa c)).size := by omega
          have hy : ¬ 9223372036854775807 < (B8 A2).size + (1 + (B8 (Lib.itoa c)).size) := by omega
          go_wp2_with (go_at_call 44; refine (HNC _ hT2.out).mono ?_; rintro e w3 ⟨rfl, hk5⟩)
          go_meet
          exact ⟨str_eq (by rw [hk6.out, addB]), hk5⟩
        case rest =>
          obtain ⟨rfl, hk3⟩ := hcut
          replace HX := heap_kept hk3 HX
          clear z0 z1 z2 z3 z4 hxl
          have z0 := cell_heap HX (o := 0) rfl
          have z1 := cell_heap HX (o := 1) rfl
          have z2 := cell_heap HX (o := 2) rfl
          have z3 := cell_heap HX (o := 3) rfl
          have z4 := cell_heap HX (o := 4) rfl
          have hxl := heap_lt HX
          have hT3 := Lib.hid (hT2.out.kept hk3)
          have hkC := hkB.trans' hk3
          have hy3 : (B8 (A2 ++ 32 :: codeW t c)).size ≤ 80 := by have := n3.out; rw [B8_size] at *; simp; omega
          clear hA2 hk3 hkB hT2 hy2
          generalize A2 ++ 32 :: codeW t c = A3 at *
          have q4 : (B8 (Lib.itoa v)).size ≤ 21 := n4.out
          have q5 : (B8 (Lib.itoa x)).size ≤ 21 := n5.out
          have q6 : (B8 (Lib.itoa l)).size ≤ 21 := n6.out
          generalize B8 (Lib.itoa v) = V4 at *
          generalize B8 (Lib.itoa x) = X5 at *
          generalize B8 (Lib.itoa l) = L6 at *
          have f1 : ¬ 9223372036854775807 < (B8 A3).size + 1 := by omega
          have f2 : ¬ 9223372036854775807 < (B8 A3).size + 1 + V4.size := by omega
          have f3 : ¬ 9223372036854775807 < (B8 A3).size + 1 + V4.size + 1 := by omega
          have f4 : ¬ 9223372036854775807 < (B8 A3).size + 1 + V4.size + 1 + X5.size := by omega
          have f5 : ¬ 9223372036854775807 < (B8 A3).size + 1 + V4.size + 1 + X5.size + 1 := by omega
          have f6 : ¬ 9223372036854775807 < (B8 A3).size + 1 + V4.size + 1 + X5.size + 1 + L6.size := by omega
          refine (show ∀ (a : Act) (w : World), Code.wp Tryd.prog _ _ a w → _ from by assumption) _ _ ?_
          have hwv := wrapK v0 (by omega)
          have hwx := wrapK x0 (by omega)
          have hwl := wrapK l0 (by omega)
          go_upto_region 12 with (fail)
          refine wp_at (fun W2 => W2.heap[w.heap.size]? = some (.cells #[.int .u8 (t), .int .u8 (c), .int .u16 (v), .int .u16 (x), .int .u16 (l)] 25 (0, 0)) ∧ Tabs W2 ∧ Kept w W2) ⟨HX, hT3.out, hkC⟩ (fun wf hWf => ?_)
          clear HX hT3 hkC z0 z1 z2 z3 z4 hxl
          obtain ⟨HX, hT3, hkC⟩ := hWf
          replace hT3 := Lib.hid hT3
          have z0 := cell_heap HX (o := 0) rfl
          have z1 := cell_heap HX (o := 1) rfl
          have z2 := cell_heap HX (o := 2) rfl
          have z3 := cell_heap HX (o := 3) rfl
          have z4 := cell_heap HX (o := 4) rfl
          have hxl := heap_lt HX
          go_region_held3 (fun w' => (∀ b o, b < wf.heap.size → w'.cell? ⟨b, o, none⟩ = wf.cell? ⟨b, o, none⟩) ∧ Below wf.heap.size wf w') (first | assumption | exact since_start | exact since_keep (by assumption) (Nat.le_refl _) hk) (first
            | (go_at_call 44; refine (HNV _ (hT3.out.kept (Below.mono (by assumption : _ ∧ _).2 (Nat.le_refl _)))).mono ?_; rintro e w1 ⟨rfl, hk⟩; dsimp only)
            | (go_at_call 44; refine (HNX _ (hT3.out.kept (Below.mono (by assumption : _ ∧ _).2 (Nat.le_refl _)))).mono ?_; rintro e w1 ⟨rfl, hk⟩; dsimp only)
            | (go_at_call 44; refine (HNL _ (hT3.out.kept (Below.mono (by assumption : _ ∧ _).2 (Nat.le_refl _)))).mono ?_; rintro e w1 ⟨rfl, hk⟩; dsimp only))
          all_goals go_wp2
          all_goals go_ret
          all_goals exact ⟨ret_str HE.out, hkC.trans' (since_kept (Below.refl _ _) (by assumption) (Nat.le_refl _))⟩
      · have hnn := Hnk2.out rfl
        clear Hnk2
        refine (show ∀ (a : Act) (w : World), Code.wp Tryd.prog _ _ a w → _ from by assumption) _ _ ?_
        go_upto_region 11 with (go_at_call 34; refine (HNM _).mono ?_; rintro e w3 ⟨rfl, rfl⟩)
        refine wp_at (fun W2 => W2.heap[w.heap.size]? = some (.cells #[.int .u8 (t), .int .u8 (c), .int .u16 (v), .int .u16 (x), .int .u16 (l)] 25 (0, 0)) ∧ Tabs W2 ∧ Kept w W2) ⟨HX, hT2.out, hkB⟩ (fun wd hWd => ?_)
        clear HX hT2 hkB z0 z1 z2 z3 z4 hxl
        obtain ⟨HX, hT2, hkB⟩ := hWd
        replace hT2 := Lib.hid hT2
        have z0 := cell_heap HX (o := 0) rfl
        have z1 := cell_heap HX (o := 1) rfl
        have z2 := cell_heap HX (o := 2) rfl
        have z3 := cell_heap HX (o := 3) rfl
        have z4 := cell_heap HX (o := 4) rfl
        have hxl := heap_lt HX
        go_cut [3] (fun s3 we => s3 = .string (B8 (A2 ++ 32 :: codeW t c)) ∧ Kept wd we)
        case first =>
          have hk6 := Lib.hid (code_n HC.out)
          have hq : (B8 (Lib.itoa c)).size ≤ 21 := n8.out
          have hq1 : ¬ 9223372036854775807 < 1 + (B8 (Lib.itoa c)).size := by omega
          have hy : ¬ 9223372036854775807 < (B8 A2).size + (1 + (B8 (Lib.itoa c)).size) := by omega
          go_wp2_with (go_at_call 44; refine (HNC _ hT2.out).mono ?_; rintro e w3 ⟨rfl, hk5⟩)
          go_meet
          exact ⟨str_eq (by rw [hk6.out, addB]), hk5⟩
        case rest =>
          obtain ⟨rfl, hk3⟩ := hcut
          replace HX := heap_kept hk3 HX
          clear z0 z1 z2 z3 z4 hxl
          have z0 := cell_heap HX (o := 0) rfl
          have z1 := cell_heap HX (o := 1) rfl
          have z2 := cell_heap HX (o := 2) rfl
          have z3 := cell_heap HX (o := 3) rfl
          have z4 := cell_heap HX (o := 4) rfl
          have hxl := heap_lt HX
          have hT3 := Lib.hid (hT2.out.kept hk3)
          have hkC := hkB.trans' hk3
          have hy3 : (B8 (A2 ++ 32 :: codeW t c)).size ≤ 80 := by have := n3.out; rw [B8_size] at *; simp; omega
          clear hA2 hk3 hkB hT2 hy2
          generalize A2 ++ 32 :: codeW t c = A3 at *
          have q4 : (B8 (Lib.itoa v)).size ≤ 21 := n4.out
          have q5 : (B8 (Lib.itoa x)).size ≤ 21 := n5.out
          have q6 : (B8 (Lib.itoa l)).size ≤ 21 := n6.out
          generalize B8 (Lib.itoa v) = V4 at *
          generalize B8 (Lib.itoa x) = X5 at *
          generalize B8 (Lib.itoa l) = L6 at *
          have f1 : ¬ 9223372036854775807 < (B8 A3).size + 1 := by omega
          have f2 : ¬ 9223372036854775807 < (B8 A3).size + 1 + V4.size := by omega
          have f3 : ¬ 9223372036854775807 < (B8 A3).size + 1 + V4.size + 1 := by omega
          have f4 : ¬ 9223372036854775807 < (B8 A3).size + 1 + V4.size + 1 + X5.size := by omega
          have f5 : ¬ 9223372036854775807 < (B8 A3).size + 1 + V4.size + 1 + X5.size + 1 := by omega
          have f6 : ¬ 9223372036854775807 < (B8 A3).size + 1 + V4.size + 1 + X5.size + 1 + L6.size := by omega
          refine (show ∀ (a : Act) (w : World), Code.wp Tryd.prog _ _ a w → _ from by assumption) _ _ ?_
          have hwv := wrapK v0 (by omega)
          have hwx := wrapK x0 (by omega)
          have hwl := wrapK l0 (by omega)
          go_upto_region 12 with (fail)
          refine wp_at (fun W2 => W2.heap[w.heap.size]? = some (.cells #[.int .u8 (t), .int .u8 (c), .int .u16 (v), .int .u16 (x), .int .u16 (l)] 25 (0, 0)) ∧ Tabs W2 ∧ Kept w W2) ⟨HX, hT3.out, hkC⟩ (fun wf hWf => ?_)
          clear HX hT3 hkC z0 z1 z2 z3 z4 hxl
          obtain ⟨HX, hT3, hkC⟩ := hWf
          replace hT3 := Lib.hid hT3
          have z0 := cell_heap HX (o := 0) rfl
          have z1 := cell_heap HX (o := 1) rfl
          have z2 := cell_heap HX (o := 2) rfl
          have z3 := cell_heap HX (o := 3) rfl
          have z4 := cell_heap HX (o := 4) rfl
          have hxl := heap_lt HX
          go_region_held3 (fun w' => (∀ b o, b < wf.heap.size → w'.cell? ⟨b, o, none⟩ = wf.cell? ⟨b, o, none⟩) ∧ Below wf.heap.size wf w') (first | assumption | exact since_start | exact since_keep (by assumption) (Nat.le_refl _) hk) (first
            | (go_at_call 44; refine (HNV _ (hT3.out.kept (Below.mono (by assumption : _ ∧ _).2 (Nat.le_refl _)))).mono ?_; rintro e w1 ⟨rfl, hk⟩; dsimp only)
            | (go_at_call 44; refine (HNX _ (hT3.out.kept (Below.mono (by assumption : _ ∧ _).2 (Nat.le_refl _)))).mono ?_; rintro e w1 ⟨rfl, hk⟩; dsimp only)
            | (go_at_call 44; refine (HNL _ (hT3.out.kept (Below.mono (by assumption : _ ∧ _).2 (Nat.le_refl _)))).mono ?_; rintro e w1 ⟨rfl, hk⟩; dsimp only))
          all_goals go_wp2
          all_goals go_ret
          all_goals exact ⟨ret_str HE.out, hkC.trans' (since_kept (Below.refl _ _) (by assumption) (Nat.le_refl _))⟩
set_option maxRecDepth 100000 in
set_option maxHeartbeats 8000000 in
theorem lawtext_outWordName (t c v x l : Int) (w : World) (hok : Rq.ok ⟨t, c, v, x, l⟩) (hT : Tabs w) (hI : t < 128) (hM : t % 32 < 4) (hC : t / 32 % 4 = 0 ∧ nameW c ≠ []) :
    Calls Tryd.prog 19 #[.agg #[.int .u8 (t), .int .u8 (c), .int .u16 (v), .int .u16 (x), .int .u16 (l)]] w fun e w' => e = .returned (.string (textB ⟨t, c, v, x, l⟩)) ∧ Kept w w' := by
  obtain ⟨⟨t0, t1⟩, ⟨c0, c1⟩, ⟨v0, v1⟩, ⟨x0, x1⟩, ⟨l0, l1⟩⟩ := hok
  dsimp only at t0 t1 c0 c1 v0 v1 x0 x1 l0 l1
  have HE := Lib.hid (text_eq t c v x l)
  have n0 := Lib.hid (way_len t)
  have n1 := Lib.hid (kind_len t)
  have n2 := Lib.hid (whom_len t0)
  have n3 := Lib.hid (code_len (t := t) c0 c1)
  have n4 := Lib.hid (itoa_small v0 v1)
  have n5 := Lib.hid (itoa_small x0 x1)
  have n6 := Lib.hid (itoa_small l0 l1)
  have n7 := Lib.hid (itoa_small (n := t % 32) (by omega) (by omega))
  have n8 := Lib.hid (itoa_small c0 (by omega))
  have HNR := fun W (h : Tabs W) => itoa_any (t % 32) W (by omega) (by omega) h
  have HNC := fun W (h : Tabs W) => itoa_any c W (by omega) (by omega) h
  have HNV := fun W (h : Tabs W) => itoa_any v W (by omega) (by omega) h
  have HNX := fun W (h : Tabs W) => itoa_any x W (by omega) (by omega) h
  have HNL := fun W (h : Tabs W) => itoa_any l W (by omega) (by omega) h
  have HNM := fun W => nameL_any c W c0 c1
  have HWY := Lib.hid (way_out hI)
  have hd : decide (128 ≤ t) = false := decide_eq_false (by omega)
  have hd4 : decide (t % 32 < 4) = true := decide_eq_true hM
  have HM := Lib.hid hM
  have HC := Lib.hid hC
  clear hI hM hC
  go_enter Tryd.func19, Tryd.ntmps19
  go_upto_region 5 with (fail)
  refine wp_at (fun W => W.heap[w.heap.size]? = some (.cells #[.int .u8 (t), .int .u8 (c), .int .u16 (v), .int .u16 (x), .int .u16 (l)] 25 (0, 0)) ∧ Kept w W) ⟨heap_at _ rfl, by go_grown⟩ (fun W hW => ?_)
  obtain ⟨HX, hkW⟩ := hW
  have HTW := Lib.hid (hT.kept hkW)
  clear hT
  have z0 := cell_heap HX (o := 0) rfl
  have z1 := cell_heap HX (o := 1) rfl
  have z2 := cell_heap HX (o := 2) rfl
  have z3 := cell_heap HX (o := 3) rfl
  have z4 := cell_heap HX (o := 4) rfl
  have hxl := heap_lt HX
  rw [HWY.out]
  go_cut [3] (fun s3 wc => s3 = .string (B8 (wayW t ++ 32 :: kindW t)) ∧ Kept W wc)
  case first =>
    have hz : (B8 (wayW t)).size ≤ 3 := n0.out
    have hk : t / 32 % 4 = 0 ∨ t / 32 % 4 = 1 ∨ t / 32 % 4 = 2 ∨ t / 32 % 4 = 3 := by omega
    rcases hk with h | h | h | h
    · have HK := Lib.hid (kind_0 h)
      have hy : ¬ 9223372036854775807 < (B8 (wayW t)).size + 9 := by omega
      go_wp2
      go_meet
      exact ⟨str_eq (by rw [HK.out, addB]), by go_grown⟩
    · have HK := Lib.hid (kind_1 h)
      have hy : ¬ 9223372036854775807 < (B8 (wayW t)).size + 6 := by omega
      go_wp2
      go_meet
      exact ⟨str_eq (by rw [HK.out, addB]), by go_grown⟩
    · have HK := Lib.hid (kind_2 h)
      have hy : ¬ 9223372036854775807 < (B8 (wayW t)).size + 7 := by omega
      go_wp2
      go_meet
      exact ⟨str_eq (by rw [HK.out, addB]), by go_grown⟩
    · have HK := Lib.hid (kind_3 h)
      have hy : ¬ 9223372036854775807 < (B8 (wayW t)).size + 9 := by omega
      go_wp2
      go_meet
      exact ⟨str_eq (by rw [HK.out, addB]), by go_grown⟩
  case rest =>
    obtain ⟨rfl, hk1⟩ := hcut
    have hy1 : (B8 (wayW t ++ 32 :: kindW t)).size ≤ 20 := by have := n0.out; have := n1.out; rw [B8_size]; simp; omega
    replace HX := heap_kept hk1 HX
    clear z0 z1 z2 z3 z4 hxl
    have z0 := cell_heap HX (o := 0) rfl
    have z1 := cell_heap HX (o := 1) rfl
    have z2 := cell_heap HX (o := 2) rfl
    have z3 := cell_heap HX (o := 3) rfl
    have z4 := cell_heap HX (o := 4) rfl
    have hxl := heap_lt HX
    have hT1 := Lib.hid (HTW.out.kept hk1)
    have hkA := hkW.trans' hk1
    clear hk1
    generalize hA : wayW t ++ 32 :: kindW t = A1 at *
    refine (show ∀ (a : Act) (w : World), Code.wp Tryd.prog _ _ a w → _ from by assumption) _ _ ?_
    go_upto_region 7 with (fail)
    go_cut [3] (fun s3 wd => s3 = .string (B8 (A1 ++ 32 :: whomW t)) ∧ Kept wc wd)
    case first =>
      have hk4 : t % 32 = 0 ∨ t % 32 = 1 ∨ t % 32 = 2 ∨ t % 32 = 3 := by have := HM.out; omega
      rcases hk4 with h | h | h | h
      · have HK := Lib.hid (whom_0 h)
        have h4 : t % 4 = 0 := by omega
        have hy : ¬ 9223372036854775807 < (B8 A1).size + 7 := by omega
        go_wp2
        go_meet
        exact ⟨str_eq (by rw [HK.out, addB]), by go_grown⟩
      · have HK := Lib.hid (whom_1 h)
        have h4 : t % 4 = 1 := by omega
        have hy : ¬ 9223372036854775807 < (B8 A1).size + 10 := by omega
        go_wp2
        go_meet
        exact ⟨str_eq (by rw [HK.out, addB]), by go_grown⟩
      · have HK := Lib.hid (whom_2 h)
        have h4 : t % 4 = 2 := by omega
        have hy : ¬ 9223372036854775807 < (B8 A1).size + 9 := by omega
        go_wp2
        go_meet
        exact ⟨str_eq (by rw [HK.out, addB]), by go_grown⟩
      · have HK := Lib.hid (whom_3 h)
        have h4 : t % 4 = 3 := by omega
        have hy : ¬ 9223372036854775807 < (B8 A1).size + 6 := by omega
        go_wp2
        go_meet
        exact ⟨str_eq (by rw [HK.out, addB]), by go_grown⟩
    case rest =>
      obtain ⟨rfl, hk2⟩ := hcut
      replace HX := heap_kept hk2 HX
      clear z0 z1 z2 z3 z4 hxl
      have z0 := cell_heap HX (o := 0) rfl
      have z1 := cell_heap HX (o := 1) rfl
      have z2 := cell_heap HX (o := 2) rfl
      have z3 := cell_heap HX (o := 3) rfl
      have z4 := cell_heap HX (o := 4) rfl
      have hxl := heap_lt HX
      have hT2 := Lib.hid (hT1.out.kept hk2)
      have hkB := hkA.trans' hk2
      have hy2 : (B8 (A1 ++ 32 :: whomW t)).size ≤ 50 := by have := n2.out; rw [B8_size] at *; simp; omega
      clear hk2 hkA hT1 hy1
      generalize hA2 : A1 ++ 32 :: whomW t = A2 at *
      have hc1 := Lib.hid HC.out.1
      have hb : t / 32 % 4 = 0 := HC.out.1
      have hnn : (!(B8 (nameW c)).toList.isEmpty) = true := by
        have := HC.out.2
        simp [B8, ByteArray.toList_eq, this]
      have hne : (B8 (nameW c)).toList ≠ [] := by
        have := HC.out.2
        simp [B8, ByteArray.toList_eq, this]
      refine (show ∀ (a : Act) (w : World), Code.wp Tryd.prog _ _ a w → _ from by assumption) _ _ ?_
      go_upto_region 10 with (go_at_call 34; refine (HNM _).mono ?_; rintro e w3 ⟨rfl, rfl⟩)
      refine wp_at (fun W2 => W2.heap[w.heap.size]? = some (.cells #[.int .u8 (t), .int .u8 (c), .int .u16 (v), .int .u16 (x), .int .u16 (l)] 25 (0, 0)) ∧ Tabs W2 ∧ Kept w W2) ⟨HX, hT2.out, hkB⟩ (fun wd hWd => ?_)
      clear HX hT2 hkB z0 z1 z2 z3 z4 hxl
      obtain ⟨HX, hT2, hkB⟩ := hWd
      replace hT2 := Lib.hid hT2
      have z0 := cell_heap HX (o := 0) rfl
      have z1 := cell_heap HX (o := 1) rfl
      have z2 := cell_heap HX (o := 2) rfl
      have z3 := cell_heap HX (o := 3) rfl
      have z4 := cell_heap HX (o := 4) rfl
      have hxl := heap_lt HX
      go_cut [3] (fun s3 we => s3 = .string (B8 (A2 ++ 32 :: codeW t c)) ∧ Kept wd we)
      case first =>
        have hk6 := Lib.hid (code_y HC.out.1 HC.out.2)
        have hq : (B8 (nameW c)).size ≤ 21 := by rw [hk6.out]; exact n3.out
        have hq1 : ¬ 9223372036854775807 < 1 + (B8 (nameW c)).size := by omega
        have hy : ¬ 9223372036854775807 < (B8 A2).size + (1 + (B8 (nameW c)).size) := by omega
        go_wp2_with (go_at_call 34; refine (HNM _).mono ?_; rintro e w3 ⟨rfl, rfl⟩)
        go_meet
        exact ⟨str_eq (by rw [hk6.out, addB]), Below.refl _ _⟩
      case rest =>
        obtain ⟨rfl, hk3⟩ := hcut
        replace HX := heap_kept hk3 HX
        clear z0 z1 z2 z3 z4 hxl
        have z0 := cell_heap HX (o := 0) rfl
        have z1 := cell_heap HX (o := 1) rfl
        have z2 := cell_heap HX (o := 2) rfl
        have z3 := cell_heap HX (o := 3) rfl
        have z4 := cell_heap HX (o := 4) rfl
        have hxl := heap_lt HX
        have hT3 := Lib.hid (hT2.out.kept hk3)
        have hkC := hkB.trans' hk3
        have hy3 : (B8 (A2 ++ 32 :: codeW t c)).size ≤ 80 := by have := n3.out; rw [B8_size] at *; simp; omega
        clear hA2 hk3 hkB hT2 hy2
        generalize A2 ++ 32 :: codeW t c = A3 at *
        have q4 : (B8 (Lib.itoa v)).size ≤ 21 := n4.out
        have q5 : (B8 (Lib.itoa x)).size ≤ 21 := n5.out
        have q6 : (B8 (Lib.itoa l)).size ≤ 21 := n6.out
        generalize B8 (Lib.itoa v) = V4 at *
        generalize B8 (Lib.itoa x) = X5 at *
        generalize B8 (Lib.itoa l) = L6 at *
        have f1 : ¬ 9223372036854775807 < (B8 A3).size + 1 := by omega
        have f2 : ¬ 9223372036854775807 < (B8 A3).size + 1 + V4.size := by omega
        have f3 : ¬ 9223372036854775807 < (B8 A3).size + 1 + V4.size + 1 := by omega
        have f4 : ¬ 9223372036854775807 < (B8 A3).size + 1 + V4.size + 1 + X5.size := by omega
        have f5 : ¬ 9223372036854775807 < (B8 A3).size + 1 + V4.size + 1 + X5.size + 1 := by omega
        have f6 : ¬ 9223372036854775807 < (B8 A3).size + 1 + V4.size + 1 + X5.size + 1 + L6.size := by omega
        refine (show ∀ (a : Act) (w : World), Code.wp Tryd.prog _ _ a w → _ from by assumption) _ _ ?_
        have hwv := wrapK v0 (by omega)
        have hwx := wrapK x0 (by omega)
        have hwl := wrapK l0 (by omega)
        go_upto_region 12 with (fail)
        refine wp_at (fun W2 => W2.heap[w.heap.size]? = some (.cells #[.int .u8 (t), .int .u8 (c), .int .u16 (v), .int .u16 (x), .int .u16 (l)] 25 (0, 0)) ∧ Tabs W2 ∧ Kept w W2) ⟨HX, hT3.out, hkC⟩ (fun wf hWf => ?_)
        clear HX hT3 hkC z0 z1 z2 z3 z4 hxl
        obtain ⟨HX, hT3, hkC⟩ := hWf
        replace hT3 := Lib.hid hT3
        have z0 := cell_heap HX (o := 0) rfl
        have z1 := cell_heap HX (o := 1) rfl
        have z2 := cell_heap HX (o := 2) rfl
        have z3 := cell_heap HX (o := 3) rfl
        have z4 := cell_heap HX (o := 4) rfl
        have hxl := heap_lt HX
        go_region_held3 (fun w' => (∀ b o, b < wf.heap.size → w'.cell? ⟨b, o, none⟩ = wf.cell? ⟨b, o, none⟩) ∧ Below wf.heap.size wf w') (first | assumption | exact since_start | exact since_keep (by assumption) (Nat.le_refl _) hk) (first
          | (go_at_call 44; refine (HNV _ (hT3.out.kept (Below.mono (by assumption : _ ∧ _).2 (Nat.le_refl _)))).mono ?_; rintro e w1 ⟨rfl, hk⟩; dsimp only)
          | (go_at_call 44; refine (HNX _ (hT3.out.kept (Below.mono (by assumption : _ ∧ _).2 (Nat.le_refl _)))).mono ?_; rintro e w1 ⟨rfl, hk⟩; dsimp only)
          | (go_at_call 44; refine (HNL _ (hT3.out.kept (Below.mono (by assumption : _ ∧ _).2 (Nat.le_refl _)))).mono ?_; rintro e w1 ⟨rfl, hk⟩; dsimp only))
        all_goals go_wp2
        all_goals go_ret
        all_goals exact ⟨ret_str HE.out, hkC.trans' (since_kept (Below.refl _ _) (by assumption) (Nat.le_refl _))⟩
set_option maxRecDepth 100000 in
set_option maxHeartbeats 8000000 in
theorem lawtext_outWordCode (t c v x l : Int) (w : World) (hok : Rq.ok ⟨t, c, v, x, l⟩) (hT : Tabs w) (hI : t < 128) (hM : t % 32 < 4) (hC : ¬ (t / 32 % 4 = 0 ∧ nameW c ≠ [])) :
    Calls Tryd.prog 19 #[.agg #[.int .u8 (t), .int .u8 (c), .int .u16 (v), .int .u16 (x), .int .u16 (l)]] w fun e w' => e = .returned (.string (textB ⟨t, c, v, x, l⟩)) ∧ Kept w w' := by
  obtain ⟨⟨t0, t1⟩, ⟨c0, c1⟩, ⟨v0, v1⟩, ⟨x0, x1⟩, ⟨l0, l1⟩⟩ := hok
  dsimp only at t0 t1 c0 c1 v0 v1 x0 x1 l0 l1
  have HE := Lib.hid (text_eq t c v x l)
  have n0 := Lib.hid (way_len t)
  have n1 := Lib.hid (kind_len t)
  have n2 := Lib.hid (whom_len t0)
  have n3 := Lib.hid (code_len (t := t) c0 c1)
  have n4 := Lib.hid (itoa_small v0 v1)
  have n5 := Lib.hid (itoa_small x0 x1)
  have n6 := Lib.hid (itoa_small l0 l1)
  have n7 := Lib.hid (itoa_small (n := t % 32) (by omega) (by omega))
  have n8 := Lib.hid (itoa_small c0 (by omega))
  have HNR := fun W (h : Tabs W) => itoa_any (t % 32) W (by omega) (by omega) h
  have HNC := fun W (h : Tabs W) => itoa_any c W (by omega) (by omega) h
  have HNV := fun W (h : Tabs W) => itoa_any v W (by omega) (by omega) h
  have HNX := fun W (h : Tabs W) => itoa_any x W (by omega) (by omega) h
  have HNL := fun W (h : Tabs W) => itoa_any l W (by omega) (by omega) h
  have HNM := fun W => nameL_any c W c0 c1
  have HWY := Lib.hid (way_out hI)
  have hd : decide (128 ≤ t) = false := decide_eq_false (by omega)
  have hd4 : decide (t % 32 < 4) = true := decide_eq_true hM
  have HM := Lib.hid hM
  have HC := Lib.hid hC
  clear hI hM hC
  go_enter Tryd.func19, Tryd.ntmps19
  go_upto_region 5 with (fail)
  refine wp_at (fun W => W.heap[w.heap.size]? = some (.cells #[.int .u8 (t), .int .u8 (c), .int .u16 (v), .int .u16 (x), .int .u16 (l)] 25 (0, 0)) ∧ Kept w W) ⟨heap_at _ rfl, by go_grown⟩ (fun W hW => ?_)
  obtain ⟨HX, hkW⟩ := hW
  have HTW := Lib.hid (hT.kept hkW)
  clear hT
  have z0 := cell_heap HX (o := 0) rfl
  have z1 := cell_heap HX (o := 1) rfl
  have z2 := cell_heap HX (o := 2) rfl
  have z3 := cell_heap HX (o := 3) rfl
  have z4 := cell_heap HX (o := 4) rfl
  have hxl := heap_lt HX
  rw [HWY.out]
  go_cut [3] (fun s3 wc => s3 = .string (B8 (wayW t ++ 32 :: kindW t)) ∧ Kept W wc)
  case first =>
    have hz : (B8 (wayW t)).size ≤ 3 := n0.out
    have hk : t / 32 % 4 = 0 ∨ t / 32 % 4 = 1 ∨ t / 32 % 4 = 2 ∨ t / 32 % 4 = 3 := by omega
    rcases hk with h | h | h | h
    · have HK := Lib.hid (kind_0 h)
      have hy : ¬ 9223372036854775807 < (B8 (wayW t)).size + 9 := by omega
      go_wp2
      go_meet
      exact ⟨str_eq (by rw [HK.out, addB]), by go_grown⟩
    · have HK := Lib.hid (kind_1 h)
      have hy : ¬ 9223372036854775807 < (B8 (wayW t)).size + 6 := by omega
      go_wp2
      go_meet
      exact ⟨str_eq (by rw [HK.out, addB]), by go_grown⟩
    · have HK := Lib.hid (kind_2 h)
      have hy : ¬ 9223372036854775807 < (B8 (wayW t)).size + 7 := by omega
      go_wp2
      go_meet
      exact ⟨str_eq (by rw [HK.out, addB]), by go_grown⟩
    · have HK := Lib.hid (kind_3 h)
      have hy : ¬ 9223372036854775807 < (B8 (wayW t)).size + 9 := by omega
      go_wp2
      go_meet
      exact ⟨str_eq (by rw [HK.out, addB]), by go_grown⟩
  case rest =>
    obtain ⟨rfl, hk1⟩ := hcut
    have hy1 : (B8 (wayW t ++ 32 :: kindW t)).size ≤ 20 := by have := n0.out; have := n1.out; rw [B8_size]; simp; omega
    replace HX := heap_kept hk1 HX
    clear z0 z1 z2 z3 z4 hxl
    have z0 := cell_heap HX (o := 0) rfl
    have z1 := cell_heap HX (o := 1) rfl
    have z2 := cell_heap HX (o := 2) rfl
    have z3 := cell_heap HX (o := 3) rfl
    have z4 := cell_heap HX (o := 4) rfl
    have hxl := heap_lt HX
    have hT1 := Lib.hid (HTW.out.kept hk1)
    have hkA := hkW.trans' hk1
    clear hk1
    generalize hA : wayW t ++ 32 :: kindW t = A1 at *
    refine (show ∀ (a : Act) (w : World), Code.wp Tryd.prog _ _ a w → _ from by assumption) _ _ ?_
    go_upto_region 7 with (fail)
    go_cut [3] (fun s3 wd => s3 = .string (B8 (A1 ++ 32 :: whomW t)) ∧ Kept wc wd)
    case first =>
      have hk4 : t % 32 = 0 ∨ t % 32 = 1 ∨ t % 32 = 2 ∨ t % 32 = 3 := by have := HM.out; omega
      rcases hk4 with h | h | h | h
      · have HK := Lib.hid (whom_0 h)
        have h4 : t % 4 = 0 := by omega
        have hy : ¬ 9223372036854775807 < (B8 A1).size + 7 := by omega
        go_wp2
        go_meet
        exact ⟨str_eq (by rw [HK.out, addB]), by go_grown⟩
      · have HK := Lib.hid (whom_1 h)
        have h4 : t % 4 = 1 := by omega
        have hy : ¬ 9223372036854775807 < (B8 A1).size + 10 := by omega
        go_wp2
        go_meet
        exact ⟨str_eq (by rw [HK.out, addB]), by go_grown⟩
      · have HK := Lib.hid (whom_2 h)
        have h4 : t % 4 = 2 := by omega
        have hy : ¬ 9223372036854775807 < (B8 A1).size + 9 := by omega
        go_wp2
        go_meet
        exact ⟨str_eq (by rw [HK.out, addB]), by go_grown⟩
      · have HK := Lib.hid (whom_3 h)
        have h4 : t % 4 = 3 := by omega
        have hy : ¬ 9223372036854775807 < (B8 A1).size + 6 := by omega
        go_wp2
        go_meet
        exact ⟨str_eq (by rw [HK.out, addB]), by go_grown⟩
    case rest =>
      obtain ⟨rfl, hk2⟩ := hcut
      replace HX := heap_kept hk2 HX
      clear z0 z1 z2 z3 z4 hxl
      have z0 := cell_heap HX (o := 0) rfl
      have z1 := cell_heap HX (o := 1) rfl
      have z2 := cell_heap HX (o := 2) rfl
      have z3 := cell_heap HX (o := 3) rfl
      have z4 := cell_heap HX (o := 4) rfl
      have hxl := heap_lt HX
      have hT2 := Lib.hid (hT1.out.kept hk2)
      have hkB := hkA.trans' hk2
      have hy2 : (B8 (A1 ++ 32 :: whomW t)).size ≤ 50 := by have := n2.out; rw [B8_size] at *; simp; omega
      clear hk2 hkA hT1 hy1
      generalize hA2 : A1 ++ 32 :: whomW t = A2 at *
      have hnk := HC.out
      have hcase : ∃ b : Bool, (t / 32 % 4 == 0) = b ∧ (b = true → (B8 (nameW c)).toList = []) := by
        by_cases h : t / 32 % 4 = 0
        · refine ⟨true, by simpa using h, fun _ => ?_⟩
          have : nameW c = [] := by
            by_cases hn : nameW c = []
            · exact hn
            · exact absurd ⟨h, hn⟩ hnk
          simp [B8, ByteArray.toList_eq, this]
        · exact ⟨false, by simpa using h, fun h => by cases h⟩
      obtain ⟨bk, hbk, hnk2⟩ := hcase
      clear hnk
      have Hnk2 := Lib.hid hnk2
      clear hnk2
      cases bk
      · clear Hnk2
        refine (show ∀ (a : Act) (w : World), Code.wp Tryd.prog _ _ a w → _ from by assumption) _ _ ?_
        go_upto_region 11 with (go_at_call 34; refine (HNM _).mono ?_; rintro e w3 ⟨rfl, rfl⟩)
        refine wp_at (fun W2 => W2.heap[w.heap.size]? = some (.cells #[.int .u8 (t), .int .u8 (c), .int .u16 (v), .int .u16 (x), .int .u16 (l)] 25 (0, 0)) ∧ Tabs W2 ∧ Kept w W2) ⟨HX, hT2.out, hkB⟩ (fun wd hWd => ?_)
        clear HX hT2 hkB z0 z1 z2 z3 z4 hxl
        obtain ⟨HX, hT2, hkB⟩ := hWd
        replace hT2 := Lib.hid hT2
        have z0 := cell_heap HX (o := 0) rfl
        have z1 := cell_heap HX (o := 1) rfl
        have z2 := cell_heap HX (o := 2) rfl
        have z3 := cell_heap HX (o := 3) rfl
        have z4 := cell_heap HX (o := 4) rfl
        have hxl := heap_lt HX
        go_cut [3] (fun s3 we => s3 = .string (B8 (A2 ++ 32 :: codeW t c)) ∧ Kept wd we)
        case first =>
          have hk6 := Lib.hid (code_n HC.out)
          have hq : (B8 (Lib.itoa c)).size ≤ 21 := n8.out
          have hq1 : ¬ 9223372036854775807 < 1 + (B8 (Lib.itoa c)).size := by omega
          have hy : ¬ 9223372036854775807 < (B8 A2).size + (1 + (B8 (Lib.itoa c)).size) := by omega
          go_wp2_with (go_at_call 44; refine (HNC _ hT2.out).mono ?_; rintro e w3 ⟨rfl, hk5⟩)
          go_meet
          exact ⟨str_eq (by rw [hk6.out, addB]), hk5⟩
        case rest =>
          obtain ⟨rfl, hk3⟩ := hcut
          replace HX := heap_kept hk3 HX
          clear z0 z1 z2 z3 z4 hxl
          have z0 := cell_heap HX (o := 0) rfl
          have z1 := cell_heap HX (o := 1) rfl
          have z2 := cell_heap HX (o := 2) rfl
          have z3 := cell_heap HX (o := 3) rfl
          have z4 := cell_heap HX (o := 4) rfl
          have hxl := heap_lt HX
          have hT3 := Lib.hid (hT2.out.kept hk3)
          have hkC := hkB.trans' hk3
          have hy3 : (B8 (A2 ++ 32 :: codeW t c)).size ≤ 80 := by have := n3.out; rw [B8_size] at *; simp; omega
          clear hA2 hk3 hkB hT2 hy2
          generalize A2 ++ 32 :: codeW t c = A3 at *
          have q4 : (B8 (Lib.itoa v)).size ≤ 21 := n4.out
          have q5 : (B8 (Lib.itoa x)).size ≤ 21 := n5.out
          have q6 : (B8 (Lib.itoa l)).size ≤ 21 := n6.out
          generalize B8 (Lib.itoa v) = V4 at *
          generalize B8 (Lib.itoa x) = X5 at *
          generalize B8 (Lib.itoa l) = L6 at *
          have f1 : ¬ 9223372036854775807 < (B8 A3).size + 1 := by omega
          have f2 : ¬ 9223372036854775807 < (B8 A3).size + 1 + V4.size := by omega
          have f3 : ¬ 9223372036854775807 < (B8 A3).size + 1 + V4.size + 1 := by omega
          have f4 : ¬ 9223372036854775807 < (B8 A3).size + 1 + V4.size + 1 + X5.size := by omega
          have f5 : ¬ 9223372036854775807 < (B8 A3).size + 1 + V4.size + 1 + X5.size + 1 := by omega
          have f6 : ¬ 9223372036854775807 < (B8 A3).size + 1 + V4.size + 1 + X5.size + 1 + L6.size := by omega
          refine (show ∀ (a : Act) (w : World), Code.wp Tryd.prog _ _ a w → _ from by assumption) _ _ ?_
          have hwv := wrapK v0 (by omega)
          have hwx := wrapK x0 (by omega)
          have hwl := wrapK l0 (by omega)
          go_upto_region 12 with (fail)
          refine wp_at (fun W2 => W2.heap[w.heap.size]? = some (.cells #[.int .u8 (t), .int .u8 (c), .int .u16 (v), .int .u16 (x), .int .u16 (l)] 25 (0, 0)) ∧ Tabs W2 ∧ Kept w W2) ⟨HX, hT3.out, hkC⟩ (fun wf hWf => ?_)
          clear HX hT3 hkC z0 z1 z2 z3 z4 hxl
          obtain ⟨HX, hT3, hkC⟩ := hWf
          replace hT3 := Lib.hid hT3
          have z0 := cell_heap HX (o := 0) rfl
          have z1 := cell_heap HX (o := 1) rfl
          have z2 := cell_heap HX (o := 2) rfl
          have z3 := cell_heap HX (o := 3) rfl
          have z4 := cell_heap HX (o := 4) rfl
          have hxl := heap_lt HX
          go_region_held3 (fun w' => (∀ b o, b < wf.heap.size → w'.cell? ⟨b, o, none⟩ = wf.cell? ⟨b, o, none⟩) ∧ Below wf.heap.size wf w') (first | assumption | exact since_start | exact since_keep (by assumption) (Nat.le_refl _) hk) (first
            | (go_at_call 44; refine (HNV _ (hT3.out.kept (Below.mono (by assumption : _ ∧ _).2 (Nat.le_refl _)))).mono ?_; rintro e w1 ⟨rfl, hk⟩; dsimp only)
            | (go_at_call 44; refine (HNX _ (hT3.out.kept (Below.mono (by assumption : _ ∧ _).2 (Nat.le_refl _)))).mono ?_; rintro e w1 ⟨rfl, hk⟩; dsimp only)
            | (go_at_call 44; refine (HNL _ (hT3.out.kept (Below.mono (by assumption : _ ∧ _).2 (Nat.le_refl _)))).mono ?_; rintro e w1 ⟨rfl, hk⟩; dsimp only))
          all_goals go_wp2
          all_goals go_ret
          all_goals exact ⟨ret_str HE.out, hkC.trans' (since_kept (Below.refl _ _) (by assumption) (Nat.le_refl _))⟩
      · have hnn := Hnk2.out rfl
        clear Hnk2
        refine (show ∀ (a : Act) (w : World), Code.wp Tryd.prog _ _ a w → _ from by assumption) _ _ ?_
        go_upto_region 11 with (go_at_call 34; refine (HNM _).mono ?_; rintro e w3 ⟨rfl, rfl⟩)
        refine wp_at (fun W2 => W2.heap[w.heap.size]? = some (.cells #[.int .u8 (t), .int .u8 (c), .int .u16 (v), .int .u16 (x), .int .u16 (l)] 25 (0, 0)) ∧ Tabs W2 ∧ Kept w W2) ⟨HX, hT2.out, hkB⟩ (fun wd hWd => ?_)
        clear HX hT2 hkB z0 z1 z2 z3 z4 hxl
        obtain ⟨HX, hT2, hkB⟩ := hWd
        replace hT2 := Lib.hid hT2
        have z0 := cell_heap HX (o := 0) rfl
        have z1 := cell_heap HX (o := 1) rfl
        have z2 := cell_heap HX (o := 2) rfl
        have z3 := cell_heap HX (o := 3) rfl
        have z4 := cell_heap HX (o := 4) rfl
        have hxl := heap_lt HX
        go_cut [3] (fun s3 we => s3 = .string (B8 (A2 ++ 32 :: codeW t c)) ∧ Kept wd we)
        case first =>
          have hk6 := Lib.hid (code_n HC.out)
          have hq : (B8 (Lib.itoa c)).size ≤ 21 := n8.out
          have hq1 : ¬ 9223372036854775807 < 1 + (B8 (Lib.itoa c)).size := by omega
          have hy : ¬ 9223372036854775807 < (B8 A2).size + (1 + (B8 (Lib.itoa c)).size) := by omega
          go_wp2_with (go_at_call 44; refine (HNC _ hT2.out).mono ?_; rintro e w3 ⟨rfl, hk5⟩)
          go_meet
          exact ⟨str_eq (by rw [hk6.out, addB]), hk5⟩
        case rest =>
          obtain ⟨rfl, hk3⟩ := hcut
          replace HX := heap_kept hk3 HX
          clear z0 z1 z2 z3 z4 hxl
          have z0 := cell_heap HX (o := 0) rfl
          have z1 := cell_heap HX (o := 1) rfl
          have z2 := cell_heap HX (o := 2) rfl
          have z3 := cell_heap HX (o := 3) rfl
          have z4 := cell_heap HX (o := 4) rfl
          have hxl := heap_lt HX
          have hT3 := Lib.hid (hT2.out.kept hk3)
          have hkC := hkB.trans' hk3
          have hy3 : (B8 (A2 ++ 32 :: codeW t c)).size ≤ 80 := by have := n3.out; rw [B8_size] at *; simp; omega
          clear hA2 hk3 hkB hT2 hy2
          generalize A2 ++ 32 :: codeW t c = A3 at *
          have q4 : (B8 (Lib.itoa v)).size ≤ 21 := n4.out
          have q5 : (B8 (Lib.itoa x)).size ≤ 21 := n5.out
          have q6 : (B8 (Lib.itoa l)).size ≤ 21 := n6.out
          generalize B8 (Lib.itoa v) = V4 at *
          generalize B8 (Lib.itoa x) = X5 at *
          generalize B8 (Lib.itoa l) = L6 at *
          have f1 : ¬ 9223372036854775807 < (B8 A3).size + 1 := by omega
          have f2 : ¬ 9223372036854775807 < (B8 A3).size + 1 + V4.size := by omega
          have f3 : ¬ 9223372036854775807 < (B8 A3).size + 1 + V4.size + 1 := by omega
          have f4 : ¬ 9223372036854775807 < (B8 A3).size + 1 + V4.size + 1 + X5.size := by omega
          have f5 : ¬ 9223372036854775807 < (B8 A3).size + 1 + V4.size + 1 + X5.size + 1 := by omega
          have f6 : ¬ 9223372036854775807 < (B8 A3).size + 1 + V4.size + 1 + X5.size + 1 + L6.size := by omega
          refine (show ∀ (a : Act) (w : World), Code.wp Tryd.prog _ _ a w → _ from by assumption) _ _ ?_
          have hwv := wrapK v0 (by omega)
          have hwx := wrapK x0 (by omega)
          have hwl := wrapK l0 (by omega)
          go_upto_region 12 with (fail)
          refine wp_at (fun W2 => W2.heap[w.heap.size]? = some (.cells #[.int .u8 (t), .int .u8 (c), .int .u16 (v), .int .u16 (x), .int .u16 (l)] 25 (0, 0)) ∧ Tabs W2 ∧ Kept w W2) ⟨HX, hT3.out, hkC⟩ (fun wf hWf => ?_)
          clear HX hT3 hkC z0 z1 z2 z3 z4 hxl
          obtain ⟨HX, hT3, hkC⟩ := hWf
          replace hT3 := Lib.hid hT3
          have z0 := cell_heap HX (o := 0) rfl
          have z1 := cell_heap HX (o := 1) rfl
          have z2 := cell_heap HX (o := 2) rfl
          have z3 := cell_heap HX (o := 3) rfl
          have z4 := cell_heap HX (o := 4) rfl
          have hxl := heap_lt HX
          go_region_held3 (fun w' => (∀ b o, b < wf.heap.size → w'.cell? ⟨b, o, none⟩ = wf.cell? ⟨b, o, none⟩) ∧ Below wf.heap.size wf w') (first | assumption | exact since_start | exact since_keep (by assumption) (Nat.le_refl _) hk) (first
            | (go_at_call 44; refine (HNV _ (hT3.out.kept (Below.mono (by assumption : _ ∧ _).2 (Nat.le_refl _)))).mono ?_; rintro e w1 ⟨rfl, hk⟩; dsimp only)
            | (go_at_call 44; refine (HNX _ (hT3.out.kept (Below.mono (by assumption : _ ∧ _).2 (Nat.le_refl _)))).mono ?_; rintro e w1 ⟨rfl, hk⟩; dsimp only)
            | (go_at_call 44; refine (HNL _ (hT3.out.kept (Below.mono (by assumption : _ ∧ _).2 (Nat.le_refl _)))).mono ?_; rintro e w1 ⟨rfl, hk⟩; dsimp only))
          all_goals go_wp2
          all_goals go_ret
          all_goals exact ⟨ret_str HE.out, hkC.trans' (since_kept (Below.refl _ _) (by assumption) (Nat.le_refl _))⟩
set_option maxRecDepth 100000 in
set_option maxHeartbeats 8000000 in
theorem lawtext_outNumName (t c v x l : Int) (w : World) (hok : Rq.ok ⟨t, c, v, x, l⟩) (hT : Tabs w) (hI : t < 128) (hM : 4 ≤ t % 32) (hC : t / 32 % 4 = 0 ∧ nameW c ≠ []) :
    Calls Tryd.prog 19 #[.agg #[.int .u8 (t), .int .u8 (c), .int .u16 (v), .int .u16 (x), .int .u16 (l)]] w fun e w' => e = .returned (.string (textB ⟨t, c, v, x, l⟩)) ∧ Kept w w' := by
  obtain ⟨⟨t0, t1⟩, ⟨c0, c1⟩, ⟨v0, v1⟩, ⟨x0, x1⟩, ⟨l0, l1⟩⟩ := hok
  dsimp only at t0 t1 c0 c1 v0 v1 x0 x1 l0 l1
  have HE := Lib.hid (text_eq t c v x l)
  have n0 := Lib.hid (way_len t)
  have n1 := Lib.hid (kind_len t)
  have n2 := Lib.hid (whom_len t0)
  have n3 := Lib.hid (code_len (t := t) c0 c1)
  have n4 := Lib.hid (itoa_small v0 v1)
  have n5 := Lib.hid (itoa_small x0 x1)
  have n6 := Lib.hid (itoa_small l0 l1)
  have n7 := Lib.hid (itoa_small (n := t % 32) (by omega) (by omega))
  have n8 := Lib.hid (itoa_small c0 (by omega))
  have HNR := fun W (h : Tabs W) => itoa_any (t % 32) W (by omega) (by omega) h
  have HNC := fun W (h : Tabs W) => itoa_any c W (by omega) (by omega) h
  have HNV := fun W (h : Tabs W) => itoa_any v W (by omega) (by omega) h
  have HNX := fun W (h : Tabs W) => itoa_any x W (by omega) (by omega) h
  have HNL := fun W (h : Tabs W) => itoa_any l W (by omega) (by omega) h
  have HNM := fun W => nameL_any c W c0 c1
  have HWY := Lib.hid (way_out hI)
  have hd : decide (128 ≤ t) = false := decide_eq_false (by omega)
  have hd4 : decide (t % 32 < 4) = false := decide_eq_false (by omega)
  have HM := Lib.hid hM
  have HC := Lib.hid hC
  clear hI hM hC
  go_enter Tryd.func19, Tryd.ntmps19
  go_upto_region 5 with (fail)
  refine wp_at (fun W => W.heap[w.heap.size]? = some (.cells #[.int .u8 (t), .int .u8 (c), .int .u16 (v), .int .u16 (x), .int .u16 (l)] 25 (0, 0)) ∧ Kept w W) ⟨heap_at _ rfl, by go_grown⟩ (fun W hW => ?_)
  obtain ⟨HX, hkW⟩ := hW
  have HTW := Lib.hid (hT.kept hkW)
  clear hT
  have z0 := cell_heap HX (o := 0) rfl
  have z1 := cell_heap HX (o := 1) rfl
  have z2 := cell_heap HX (o := 2) rfl
  have z3 := cell_heap HX (o := 3) rfl
  have z4 := cell_heap HX (o := 4) rfl
  have hxl := heap_lt HX
  rw [HWY.out]
  go_cut [3] (fun s3 wc => s3 = .string (B8 (wayW t ++ 32 :: kindW t)) ∧ Kept W wc)
  case first =>
    have hz : (B8 (wayW t)).size ≤ 3 := n0.out
    have hk : t / 32 % 4 = 0 ∨ t / 32 % 4 = 1 ∨ t / 32 % 4 = 2 ∨ t / 32 % 4 = 3 := by omega
    rcases hk with h | h | h | h
    · have HK := Lib.hid (kind_0 h)
      have hy : ¬ 9223372036854775807 < (B8 (wayW t)).size + 9 := by omega
      go_wp2
      go_meet
      exact ⟨str_eq (by rw [HK.out, addB]), by go_grown⟩
    · have HK := Lib.hid (kind_1 h)
      have hy : ¬ 9223372036854775807 < (B8 (wayW t)).size + 6 := by omega
      go_wp2
      go_meet
      exact ⟨str_eq (by rw [HK.out, addB]), by go_grown⟩
    · have HK := Lib.hid (kind_2 h)
      have hy : ¬ 9223372036854775807 < (B8 (wayW t)).size + 7 := by omega
      go_wp2
      go_meet
      exact ⟨str_eq (by rw [HK.out, addB]), by go_grown⟩
    · have HK := Lib.hid (kind_3 h)
      have hy : ¬ 9223372036854775807 < (B8 (wayW t)).size + 9 := by omega
      go_wp2
      go_meet
      exact ⟨str_eq (by rw [HK.out, addB]), by go_grown⟩
  case rest =>
    obtain ⟨rfl, hk1⟩ := hcut
    have hy1 : (B8 (wayW t ++ 32 :: kindW t)).size ≤ 20 := by have := n0.out; have := n1.out; rw [B8_size]; simp; omega
    replace HX := heap_kept hk1 HX
    clear z0 z1 z2 z3 z4 hxl
    have z0 := cell_heap HX (o := 0) rfl
    have z1 := cell_heap HX (o := 1) rfl
    have z2 := cell_heap HX (o := 2) rfl
    have z3 := cell_heap HX (o := 3) rfl
    have z4 := cell_heap HX (o := 4) rfl
    have hxl := heap_lt HX
    have hT1 := Lib.hid (HTW.out.kept hk1)
    have hkA := hkW.trans' hk1
    clear hk1
    generalize hA : wayW t ++ 32 :: kindW t = A1 at *
    refine (show ∀ (a : Act) (w : World), Code.wp Tryd.prog _ _ a w → _ from by assumption) _ _ ?_
    go_upto_region 8 with (fail)
    go_cut [3] (fun s3 wd => s3 = .string (B8 (A1 ++ 32 :: whomW t)) ∧ Kept wc wd)
    case first =>
      have HK := Lib.hid (whom_n HM.out)
      have hq : (B8 (Lib.itoa (t % 32))).size ≤ 21 := n7.out
      have hq1 : ¬ 9223372036854775807 < 1 + (B8 (Lib.itoa (t % 32))).size := by omega
      have hy : ¬ 9223372036854775807 < (B8 A1).size + (1 + (B8 (Lib.itoa (t % 32))).size) := by omega
      have hr0 : 0 ≤ t % 32 := by omega
      have hr1 : t % 32 < 256 := by omega
      go_wp2_with (go_at_call 44; refine (HNR _ hT1.out).mono ?_; rintro e w2 ⟨rfl, hk2⟩)
      go_meet
      exact ⟨str_eq (by rw [HK.out, addB]), hk2⟩
    case rest =>
      obtain ⟨rfl, hk2⟩ := hcut
      replace HX := heap_kept hk2 HX
      clear z0 z1 z2 z3 z4 hxl
      have z0 := cell_heap HX (o := 0) rfl
      have z1 := cell_heap HX (o := 1) rfl
      have z2 := cell_heap HX (o := 2) rfl
      have z3 := cell_heap HX (o := 3) rfl
      have z4 := cell_heap HX (o := 4) rfl
      have hxl := heap_lt HX
      have hT2 := Lib.hid (hT1.out.kept hk2)
      have hkB := hkA.trans' hk2
      have hy2 : (B8 (A1 ++ 32 :: whomW t)).size ≤ 50 := by have := n2.out; rw [B8_size] at *; simp; omega
      clear hk2 hkA hT1 hy1
      generalize hA2 : A1 ++ 32 :: whomW t = A2 at *
      have hc1 := Lib.hid HC.out.1
      have hb : t / 32 % 4 = 0 := HC.out.1
      have hnn : (!(B8 (nameW c)).toList.isEmpty) = true := by
        have := HC.out.2
        simp [B8, ByteArray.toList_eq, this]
      have hne : (B8 (nameW c)).toList ≠ [] := by
        have := HC.out.2
        simp [B8, ByteArray.toList_eq, this]
      refine (show ∀ (a : Act) (w : World), Code.wp Tryd.prog _ _ a w → _ from by assumption) _ _ ?_
      go_upto_region 10 with (go_at_call 34; refine (HNM _).mono ?_; rintro e w3 ⟨rfl, rfl⟩)
      refine wp_at (fun W2 => W2.heap[w.heap.size]? = some (.cells #[.int .u8 (t), .int .u8 (c), .int .u16 (v), .int .u16 (x), .int .u16 (l)] 25 (0, 0)) ∧ Tabs W2 ∧ Kept w W2) ⟨HX, hT2.out, hkB⟩ (fun wd hWd => ?_)
      clear HX hT2 hkB z0 z1 z2 z3 z4 hxl
      obtain ⟨HX, hT2, hkB⟩ := hWd
      replace hT2 := Lib.hid hT2
      have z0 := cell_heap HX (o := 0) rfl
      have z1 := cell_heap HX (o := 1) rfl
      have z2 := cell_heap HX (o := 2) rfl
      have z3 := cell_heap HX (o := 3) rfl
      have z4 := cell_heap HX (o := 4) rfl
      have hxl := heap_lt HX
      go_cut [3] (fun s3 we => s3 = .string (B8 (A2 ++ 32 :: codeW t c)) ∧ Kept wd we)
      case first =>
        have hk6 := Lib.hid (code_y HC.out.1 HC.out.2)
        have hq : (B8 (nameW c)).size ≤ 21 := by rw [hk6.out]; exact n3.out
        have hq1 : ¬ 9223372036854775807 < 1 + (B8 (nameW c)).size := by omega
        have hy : ¬ 9223372036854775807 < (B8 A2).size + (1 + (B8 (nameW c)).size) := by omega
        go_wp2_with (go_at_call 34; refine (HNM _).mono ?_; rintro e w3 ⟨rfl, rfl⟩)
        go_meet
        exact ⟨str_eq (by rw [hk6.out, addB]), Below.refl _ _⟩
      case rest =>
        obtain ⟨rfl, hk3⟩ := hcut
        replace HX := heap_kept hk3 HX
        clear z0 z1 z2 z3 z4 hxl
        have z0 := cell_heap HX (o := 0) rfl
        have z1 := cell_heap HX (o := 1) rfl
        have z2 := cell_heap HX (o := 2) rfl
        have z3 := cell_heap HX (o := 3) rfl
        have z4 := cell_heap HX (o := 4) rfl
        have hxl := heap_lt HX
        have hT3 := Lib.hid (hT2.out.kept hk3)
        have hkC := hkB.trans' hk3
        have hy3 : (B8 (A2 ++ 32 :: codeW t c)).size ≤ 80 := by have := n3.out; rw [B8_size] at *; simp; omega
        clear hA2 hk3 hkB hT2 hy2
        generalize A2 ++ 32 :: codeW t c = A3 at *
        have q4 : (B8 (Lib.itoa v)).size ≤ 21 := n4.out
        have q5 : (B8 (Lib.itoa x)).size ≤ 21 := n5.out
        have q6 : (B8 (Lib.itoa l)).size ≤ 21 := n6.out
        generalize B8 (Lib.itoa v) = V4 at *
        generalize B8 (Lib.itoa x) = X5 at *
        generalize B8 (Lib.itoa l) = L6 at *
        have f1 : ¬ 9223372036854775807 < (B8 A3).size + 1 := by omega
        have f2 : ¬ 9223372036854775807 < (B8 A3).size + 1 + V4.size := by omega
        have f3 : ¬ 9223372036854775807 < (B8 A3).size + 1 + V4.size + 1 := by omega
        have f4 : ¬ 9223372036854775807 < (B8 A3).size + 1 + V4.size + 1 + X5.size := by omega
        have f5 : ¬ 9223372036854775807 < (B8 A3).size + 1 + V4.size + 1 + X5.size + 1 := by omega
        have f6 : ¬ 9223372036854775807 < (B8 A3).size + 1 + V4.size + 1 + X5.size + 1 + L6.size := by omega
        refine (show ∀ (a : Act) (w : World), Code.wp Tryd.prog _ _ a w → _ from by assumption) _ _ ?_
        have hwv := wrapK v0 (by omega)
        have hwx := wrapK x0 (by omega)
        have hwl := wrapK l0 (by omega)
        go_upto_region 12 with (fail)
        refine wp_at (fun W2 => W2.heap[w.heap.size]? = some (.cells #[.int .u8 (t), .int .u8 (c), .int .u16 (v), .int .u16 (x), .int .u16 (l)] 25 (0, 0)) ∧ Tabs W2 ∧ Kept w W2) ⟨HX, hT3.out, hkC⟩ (fun wf hWf => ?_)
        clear HX hT3 hkC z0 z1 z2 z3 z4 hxl
        obtain ⟨HX, hT3, hkC⟩ := hWf
        replace hT3 := Lib.hid hT3
        have z0 := cell_heap HX (o := 0) rfl
        have z1 := cell_heap HX (o := 1) rfl
        have z2 := cell_heap HX (o := 2) rfl
        have z3 := cell_heap HX (o := 3) rfl
        have z4 := cell_heap HX (o := 4) rfl
        have hxl := heap_lt HX
        go_region_held3 (fun w' => (∀ b o, b < wf.heap.size → w'.cell? ⟨b, o, none⟩ = wf.cell? ⟨b, o, none⟩) ∧ Below wf.heap.size wf w') (first | assumption | exact since_start | exact since_keep (by assumption) (Nat.le_refl _) hk) (first
          | (go_at_call 44; refine (HNV _ (hT3.out.kept (Below.mono (by assumption : _ ∧ _).2 (Nat.le_refl _)))).mono ?_; rintro e w1 ⟨rfl, hk⟩; dsimp only)
          | (go_at_call 44; refine (HNX _ (hT3.out.kept (Below.mono (by assumption : _ ∧ _).2 (Nat.le_refl _)))).mono ?_; rintro e w1 ⟨rfl, hk⟩; dsimp only)
          | (go_at_call 44; refine (HNL _ (hT3.out.kept (Below.mono (by assumption : _ ∧ _).2 (Nat.le_refl _)))).mono ?_; rintro e w1 ⟨rfl, hk⟩; dsimp only))
        all_goals go_wp2
        all_goals go_ret
        all_goals exact ⟨ret_str HE.out, hkC.trans' (since_kept (Below.refl _ _) (by assumption) (Nat.le_refl _))⟩
set_option maxRecDepth 100000 in
set_option maxHeartbeats 8000000 in
theorem lawtext_outNumCode (t c v x l : Int) (w : World) (hok : Rq.ok ⟨t, c, v, x, l⟩) (hT : Tabs w) (hI : t < 128) (hM : 4 ≤ t % 32) (hC : ¬ (t / 32 % 4 = 0 ∧ nameW c ≠ [])) :
    Calls Tryd.prog 19 #[.agg #[.int .u8 (t), .int .u8 (c), .int .u16 (v), .int .u16 (x), .int .u16 (l)]] w fun e w' => e = .returned (.string (textB ⟨t, c, v, x, l⟩)) ∧ Kept w w' := by
  obtain ⟨⟨t0, t1⟩, ⟨c0, c1⟩, ⟨v0, v1⟩, ⟨x0, x1⟩, ⟨l0, l1⟩⟩ := hok
  dsimp only at t0 t1 c0 c1 v0 v1 x0 x1 l0 l1
  have HE := Lib.hid (text_eq t c v x l)
  have n0 := Lib.hid (way_len t)
  have n1 := Lib.hid (kind_len t)
  have n2 := Lib.hid (whom_len t0)
  have n3 := Lib.hid (code_len (t := t) c0 c1)
  have n4 := Lib.hid (itoa_small v0 v1)
  have n5 := Lib.hid (itoa_small x0 x1)
  have n6 := Lib.hid (itoa_small l0 l1)
  have n7 := Lib.hid (itoa_small (n := t % 32) (by omega) (by omega))
  have n8 := Lib.hid (itoa_small c0 (by omega))
  have HNR := fun W (h : Tabs W) => itoa_any (t % 32) W (by omega) (by omega) h
  have HNC := fun W (h : Tabs W) => itoa_any c W (by omega) (by omega) h
  have HNV := fun W (h : Tabs W) => itoa_any v W (by omega) (by omega) h
  have HNX := fun W (h : Tabs W) => itoa_any x W (by omega) (by omega) h
  have HNL := fun W (h : Tabs W) => itoa_any l W (by omega) (by omega) h
  have HNM := fun W => nameL_any c W c0 c1
  have HWY := Lib.hid (way_out hI)
  have hd : decide (128 ≤ t) = false := decide_eq_false (by omega)
  have hd4 : decide (t % 32 < 4) = false := decide_eq_false (by omega)
  have HM := Lib.hid hM
  have HC := Lib.hid hC
  clear hI hM hC
  go_enter Tryd.func19, Tryd.ntmps19
  go_upto_region 5 with (fail)
  refine wp_at (fun W => W.heap[w.heap.size]? = some (.cells #[.int .u8 (t), .int .u8 (c), .int .u16 (v), .int .u16 (x), .int .u16 (l)] 25 (0, 0)) ∧ Kept w W) ⟨heap_at _ rfl, by go_grown⟩ (fun W hW => ?_)
  obtain ⟨HX, hkW⟩ := hW
  have HTW := Lib.hid (hT.kept hkW)
  clear hT
  have z0 := cell_heap HX (o := 0) rfl
  have z1 := cell_heap HX (o := 1) rfl
  have z2 := cell_heap HX (o := 2) rfl
  have z3 := cell_heap HX (o := 3) rfl
  have z4 := cell_heap HX (o := 4) rfl
  have hxl := heap_lt HX
  rw [HWY.out]
  go_cut [3] (fun s3 wc => s3 = .string (B8 (wayW t ++ 32 :: kindW t)) ∧ Kept W wc)
  case first =>
    have hz : (B8 (wayW t)).size ≤ 3 := n0.out
    have hk : t / 32 % 4 = 0 ∨ t / 32 % 4 = 1 ∨ t / 32 % 4 = 2 ∨ t / 32 % 4 = 3 := by omega
    rcases hk with h | h | h | h
    · have HK := Lib.hid (kind_0 h)
      have hy : ¬ 9223372036854775807 < (B8 (wayW t)).size + 9 := by omega
      go_wp2
      go_meet
      exact ⟨str_eq (by rw [HK.out, addB]), by go_grown⟩
    · have HK := Lib.hid (kind_1 h)
      have hy : ¬ 9223372036854775807 < (B8 (wayW t)).size + 6 := by omega
      go_wp2
      go_meet
      exact ⟨str_eq (by rw [HK.out, addB]), by go_grown⟩
    · have HK := Lib.hid (kind_2 h)
      have hy : ¬ 9223372036854775807 < (B8 (wayW t)).size + 7 := by omega
      go_wp2
      go_meet
      exact ⟨str_eq (by rw [HK.out, addB]), by go_grown⟩
    · have HK := Lib.hid (kind_3 h)
      have hy : ¬ 9223372036854775807 < (B8 (wayW t)).size + 9 := by omega
      go_wp2
      go_meet
      exact ⟨str_eq (by rw [HK.out, addB]), by go_grown⟩
  case rest =>
    obtain ⟨rfl, hk1⟩ := hcut
    have hy1 : (B8 (wayW t ++ 32 :: kindW t)).size ≤ 20 := by have := n0.out; have := n1.out; rw [B8_size]; simp; omega
    replace HX := heap_kept hk1 HX
    clear z0 z1 z2 z3 z4 hxl
    have z0 := cell_heap HX (o := 0) rfl
    have z1 := cell_heap HX (o := 1) rfl
    have z2 := cell_heap HX (o := 2) rfl
    have z3 := cell_heap HX (o := 3) rfl
    have z4 := cell_heap HX (o := 4) rfl
    have hxl := heap_lt HX
    have hT1 := Lib.hid (HTW.out.kept hk1)
    have hkA := hkW.trans' hk1
    clear hk1
    generalize hA : wayW t ++ 32 :: kindW t = A1 at *
    refine (show ∀ (a : Act) (w : World), Code.wp Tryd.prog _ _ a w → _ from by assumption) _ _ ?_
    go_upto_region 8 with (fail)
    go_cut [3] (fun s3 wd => s3 = .string (B8 (A1 ++ 32 :: whomW t)) ∧ Kept wc wd)
    case first =>
      have HK := Lib.hid (whom_n HM.out)
      have hq : (B8 (Lib.itoa (t % 32))).size ≤ 21 := n7.out
      have hq1 : ¬ 9223372036854775807 < 1 + (B8 (Lib.itoa (t % 32))).size := by omega
      have hy : ¬ 9223372036854775807 < (B8 A1).size + (1 + (B8 (Lib.itoa (t % 32))).size) := by omega
      have hr0 : 0 ≤ t % 32 := by omega
      have hr1 : t % 32 < 256 := by omega
      go_wp2_with (go_at_call 44; refine (HNR _ hT1.out).mono ?_; rintro e w2 ⟨rfl, hk2⟩)
      go_meet
      exact ⟨str_eq (by rw [HK.out, addB]), hk2⟩
    case rest =>
      obtain ⟨rfl, hk2⟩ := hcut
      replace HX := heap_kept hk2 HX
      clear z0 z1 z2 z3 z4 hxl
      have z0 := cell_heap HX (o := 0) rfl
      have z1 := cell_heap HX (o := 1) rfl
      have z2 := cell_heap HX (o := 2) rfl
      have z3 := cell_heap HX (o := 3) rfl
      have z4 := cell_heap HX (o := 4) rfl
      have hxl := heap_lt HX
      have hT2 := Lib.hid (hT1.out.kept hk2)
      have hkB := hkA.trans' hk2
      have hy2 : (B8 (A1 ++ 32 :: whomW t)).size ≤ 50 := by have := n2.out; rw [B8_size] at *; simp; omega
      clear hk2 hkA hT1 hy1
      generalize hA2 : A1 ++ 32 :: whomW t = A2 at *
      have hnk := HC.out
      have hcase : ∃ b : Bool, (t / 32 % 4 == 0) = b ∧ (b = true → (B8 (nameW c)).toList = []) := by
        by_cases h : t / 32 % 4 = 0
        · refine ⟨true, by simpa using h, fun _ => ?_⟩
          have : nameW c = [] := by
            by_cases hn : nameW c = []
            · exact hn
            · exact absurd ⟨h, hn⟩ hnk
          simp [B8, ByteArray.toList_eq, this]
        · exact ⟨false, by simpa using h, fun h => by cases h⟩
      obtain ⟨bk, hbk, hnk2⟩ := hcase
      clear hnk
      have Hnk2 := Lib.hid hnk2
      clear hnk2
      cases bk
      · clear Hnk2
        refine (show ∀ (a : Act) (w : World), Code.wp Tryd.prog _ _ a w → _ from by assumption) _ _ ?_
        go_upto_region 11 with (go_at_call 34; refine (HNM _).mono ?_; rintro e w3 ⟨rfl, rfl⟩)
        refine wp_at (fun W2 => W2.heap[w.heap.size]? = some (.cells #[.int .u8 (t), .int .u8 (c), .int .u16 (v), .int .u16 (x), .int .u16 (l)] 25 (0, 0)) ∧ Tabs W2 ∧ Kept w W2) ⟨HX, hT2.out, hkB⟩ (fun wd hWd => ?_)
        clear HX hT2 hkB z0 z1 z2 z3 z4 hxl
        obtain ⟨HX, hT2, hkB⟩ := hWd
        replace hT2 := Lib.hid hT2
        have z0 := cell_heap HX (o := 0) rfl
        have z1 := cell_heap HX (o := 1) rfl
        have z2 := cell_heap HX (o := 2) rfl
        have z3 := cell_heap HX (o := 3) rfl
        have z4 := cell_heap HX (o := 4) rfl
        have hxl := heap_lt HX
        go_cut [3] (fun s3 we => s3 = .string (B8 (A2 ++ 32 :: codeW t c)) ∧ Kept wd we)
        case first =>
          have hk6 := Lib.hid (code_n HC.out)
          have hq : (B8 (Lib.itoa c)).size ≤ 21 := n8.out
          have hq1 : ¬ 9223372036854775807 < 1 + (B8 (Lib.itoa c)).size := by omega
          have hy : ¬ 9223372036854775807 < (B8 A2).size + (1 + (B8 (Lib.itoa c)).size) := by omega
          go_wp2_with (go_at_call 44; refine (HNC _ hT2.out).mono ?_; rintro e w3 ⟨rfl, hk5⟩)
          go_meet
          exact ⟨str_eq (by rw [hk6.out, addB]), hk5⟩
        case rest =>
          obtain ⟨rfl, hk3⟩ := hcut
          replace HX := heap_kept hk3 HX
          clear z0 z1 z2 z3 z4 hxl
          have z0 := cell_heap HX (o := 0) rfl
          have z1 := cell_heap HX (o := 1) rfl
          have z2 := cell_heap HX (o := 2) rfl
          have z3 := cell_heap HX (o := 3) rfl
          have z4 := cell_heap HX (o := 4) rfl
          have hxl := heap_lt HX
          have hT3 := Lib.hid (hT2.out.kept hk3)
          have hkC := hkB.trans' hk3
          have hy3 : (B8 (A2 ++ 32 :: codeW t c)).size ≤ 80 := by have := n3.out; rw [B8_size] at *; simp; omega
          clear hA2 hk3 hkB hT2 hy2
          generalize A2 ++ 32 :: codeW t c = A3 at *
          have q4 : (B8 (Lib.itoa v)).size ≤ 21 := n4.out
          have q5 : (B8 (Lib.itoa x)).size ≤ 21 := n5.out
          have q6 : (B8 (Lib.itoa l)).size ≤ 21 := n6.out
          generalize B8 (Lib.itoa v) = V4 at *
          generalize B8 (Lib.itoa x) = X5 at *
          generalize B8 (Lib.itoa l) = L6 at *
          have f1 : ¬ 9223372036854775807 < (B8 A3).size + 1 := by omega
          have f2 : ¬ 9223372036854775807 < (B8 A3).size + 1 + V4.size := by omega
          have f3 : ¬ 9223372036854775807 < (B8 A3).size + 1 + V4.size + 1 := by omega
          have f4 : ¬ 9223372036854775807 < (B8 A3).size + 1 + V4.size + 1 + X5.size := by omega
          have f5 : ¬ 9223372036854775807 < (B8 A3).size + 1 + V4.size + 1 + X5.size + 1 := by omega
          have f6 : ¬ 9223372036854775807 < (B8 A3).size + 1 + V4.size + 1 + X5.size + 1 + L6.size := by omega
          refine (show ∀ (a : Act) (w : World), Code.wp Tryd.prog _ _ a w → _ from by assumption) _ _ ?_
          have hwv := wrapK v0 (by omega)
          have hwx := wrapK x0 (by omega)
          have hwl := wrapK l0 (by omega)
          go_upto_region 12 with (fail)
          refine wp_at (fun W2 => W2.heap[w.heap.size]? = some (.cells #[.int .u8 (t), .int .u8 (c), .int .u16 (v), .int .u16 (x), .int .u16 (l)] 25 (0, 0)) ∧ Tabs W2 ∧ Kept w W2) ⟨HX, hT3.out, hkC⟩ (fun wf hWf => ?_)
          clear HX hT3 hkC z0 z1 z2 z3 z4 hxl
          obtain ⟨HX, hT3, hkC⟩ := hWf
          replace hT3 := Lib.hid hT3
          have z0 := cell_heap HX (o := 0) rfl
          have z1 := cell_heap HX (o := 1) rfl
          have z2 := cell_heap HX (o := 2) rfl
          have z3 := cell_heap HX (o := 3) rfl
          have z4 := cell_heap HX (o := 4) rfl
          have hxl := heap_lt HX
          go_region_held3 (fun w' => (∀ b o, b < wf.heap.size → w'.cell? ⟨b, o, none⟩ = wf.cell? ⟨b, o, none⟩) ∧ Below wf.heap.size wf w') (first | assumption | exact since_start | exact since_keep (by assumption) (Nat.le_refl _) hk) (first
            | (go_at_call 44; refine (HNV _ (hT3.out.kept (Below.mono (by assumption : _ ∧ _).2 (Nat.le_refl _)))).mono ?_; rintro e w1 ⟨rfl, hk⟩; dsimp only)
            | (go_at_call 44; refine (HNX _ (hT3.out.kept (Below.mono (by assumption : _ ∧ _).2 (Nat.le_refl _)))).mono ?_; rintro e w1 ⟨rfl, hk⟩; dsimp only)
            | (go_at_call 44; refine (HNL _ (hT3.out.kept (Below.mono (by assumption : _ ∧ _).2 (Nat.le_refl _)))).mono ?_; rintro e w1 ⟨rfl, hk⟩; dsimp only))
          all_goals go_wp2
          all_goals go_ret
          all_goals exact ⟨ret_str HE.out, hkC.trans' (since_kept (Below.refl _ _) (by assumption) (Nat.le_refl _))⟩
      · have hnn := Hnk2.out rfl
        clear Hnk2
        refine (show ∀ (a : Act) (w : World), Code.wp Tryd.prog _ _ a w → _ from by assumption) _ _ ?_
        go_upto_region 11 with (go_at_call 34; refine (HNM _).mono ?_; rintro e w3 ⟨rfl, rfl⟩)
        refine wp_at (fun W2 => W2.heap[w.heap.size]? = some (.cells #[.int .u8 (t), .int .u8 (c), .int .u16 (v), .int .u16 (x), .int .u16 (l)] 25 (0, 0)) ∧ Tabs W2 ∧ Kept w W2) ⟨HX, hT2.out, hkB⟩ (fun wd hWd => ?_)
        clear HX hT2 hkB z0 z1 z2 z3 z4 hxl
        obtain ⟨HX, hT2, hkB⟩ := hWd
        replace hT2 := Lib.hid hT2
        have z0 := cell_heap HX (o := 0) rfl
        have z1 := cell_heap HX (o := 1) rfl
        have z2 := cell_heap HX (o := 2) rfl
        have z3 := cell_heap HX (o := 3) rfl
        have z4 := cell_heap HX (o := 4) rfl
        have hxl := heap_lt HX
        go_cut [3] (fun s3 we => s3 = .string (B8 (A2 ++ 32 :: codeW t c)) ∧ Kept wd we)
        case first =>
          have hk6 := Lib.hid (code_n HC.out)
          have hq : (B8 (Lib.itoa c)).size ≤ 21 := n8.out
          have hq1 : ¬ 9223372036854775807 < 1 + (B8 (Lib.itoa c)).size := by omega
          have hy : ¬ 9223372036854775807 < (B8 A2).size + (1 + (B8 (Lib.itoa c)).size) := by omega
          go_wp2_with (go_at_call 44; refine (HNC _ hT2.out).mono ?_; rintro e w3 ⟨rfl, hk5⟩)
          go_meet
          exact ⟨str_eq (by rw [hk6.out, addB]), hk5⟩
        case rest =>
          obtain ⟨rfl, hk3⟩ := hcut
          replace HX := heap_kept hk3 HX
          clear z0 z1 z2 z3 z4 hxl
          have z0 := cell_heap HX (o := 0) rfl
          have z1 := cell_heap HX (o := 1) rfl
          have z2 := cell_heap HX (o := 2) rfl
          have z3 := cell_heap HX (o := 3) rfl
          have z4 := cell_heap HX (o := 4) rfl
          have hxl := heap_lt HX
          have hT3 := Lib.hid (hT2.out.kept hk3)
          have hkC := hkB.trans' hk3
          have hy3 : (B8 (A2 ++ 32 :: codeW t c)).size ≤ 80 := by have := n3.out; rw [B8_size] at *; simp; omega
          clear hA2 hk3 hkB hT2 hy2
          generalize A2 ++ 32 :: codeW t c = A3 at *
          have q4 : (B8 (Lib.itoa v)).size ≤ 21 := n4.out
          have q5 : (B8 (Lib.itoa x)).size ≤ 21 := n5.out
          have q6 : (B8 (Lib.itoa l)).size ≤ 21 := n6.out
          generalize B8 (Lib.itoa v) = V4 at *
          generalize B8 (Lib.itoa x) = X5 at *
          generalize B8 (Lib.itoa l) = L6 at *
          have f1 : ¬ 9223372036854775807 < (B8 A3).size + 1 := by omega
          have f2 : ¬ 9223372036854775807 < (B8 A3).size + 1 + V4.size := by omega
          have f3 : ¬ 9223372036854775807 < (B8 A3).size + 1 + V4.size + 1 := by omega
          have f4 : ¬ 9223372036854775807 < (B8 A3).size + 1 + V4.size + 1 + X5.size := by omega
          have f5 : ¬ 9223372036854775807 < (B8 A3).size + 1 + V4.size + 1 + X5.size + 1 := by omega
          have f6 : ¬ 9223372036854775807 < (B8 A3).size + 1 + V4.size + 1 + X5.size + 1 + L6.size := by omega
          refine (show ∀ (a : Act) (w : World), Code.wp Tryd.prog _ _ a w → _ from by assumption) _ _ ?_
          have hwv := wrapK v0 (by omega)
          have hwx := wrapK x0 (by omega)
          have hwl := wrapK l0 (by omega)
          go_upto_region 12 with (fail)
          refine wp_at (fun W2 => W2.heap[w.heap.size]? = some (.cells #[.int .u8 (t), .int .u8 (c), .int .u16 (v), .int .u16 (x), .int .u16 (l)] 25 (0, 0)) ∧ Tabs W2 ∧ Kept w W2) ⟨HX, hT3.out, hkC⟩ (fun wf hWf => ?_)
          clear HX hT3 hkC z0 z1 z2 z3 z4 hxl
          obtain ⟨HX, hT3, hkC⟩ := hWf
          replace hT3 := Lib.hid hT3
          have z0 := cell_heap HX (o := 0) rfl
          have z1 := cell_heap HX (o := 1) rfl
          have z2 := cell_heap HX (o := 2) rfl
          have z3 := cell_heap HX (o := 3) rfl
          have z4 := cell_heap HX (o := 4) rfl
          have hxl := heap_lt HX
          go_region_held3 (fun w' => (∀ b o, b < wf.heap.size → w'.cell? ⟨b, o, none⟩ = wf.cell? ⟨b, o, none⟩) ∧ Below wf.heap.size wf w') (first | assumption | exact since_start | exact since_keep (by assumption) (Nat.le_refl _) hk) (first
            | (go_at_call 44; refine (HNV _ (hT3.out.kept (Below.mono (by assumption : _ ∧ _).2 (Nat.le_refl _)))).mono ?_; rintro e w1 ⟨rfl, hk⟩; dsimp only)
            | (go_at_call 44; refine (HNX _ (hT3.out.kept (Below.mono (by assumption : _ ∧ _).2 (Nat.le_refl _)))).mono ?_; rintro e w1 ⟨rfl, hk⟩; dsimp only)
            | (go_at_call 44; refine (HNL _ (hT3.out.kept (Below.mono (by assumption : _ ∧ _).2 (Nat.le_refl _)))).mono ?_; rintro e w1 ⟨rfl, hk⟩; dsimp only))
          all_goals go_wp2
          all_goals go_ret
          all_goals exact ⟨ret_str HE.out, hkC.trans' (since_kept (Below.refl _ _) (by assumption) (Nat.le_refl _))⟩
theorem lawtext_any (t c v x l : Int) (w : World) (hok : Rq.ok ⟨t, c, v, x, l⟩) (hT : Tabs w) :
    Calls Tryd.prog 19 #[.agg #[.int .u8 (t), .int .u8 (c), .int .u16 (v), .int .u16 (x), .int .u16 (l)]] w fun e w' => e = .returned (.string (textB ⟨t, c, v, x, l⟩)) ∧ Kept w w' := by
  by_cases hI : 128 ≤ t <;> by_cases hM : t % 32 < 4 <;> by_cases hC : t / 32 % 4 = 0 ∧ nameW c ≠ []
  · exact lawtext_inWordName t c v x l w hok hT hI hM hC
  · exact lawtext_inWordCode t c v x l w hok hT hI hM hC
  · exact lawtext_inNumName t c v x l w hok hT hI (by omega) hC
  · exact lawtext_inNumCode t c v x l w hok hT hI (by omega) hC
  · exact lawtext_outWordName t c v x l w hok hT (by omega) hM hC
  · exact lawtext_outWordCode t c v x l w hok hT (by omega) hM hC
  · exact lawtext_outNumName t c v x l w hok hT (by omega) (by omega) hC
  · exact lawtext_outNumCode t c v x l w hok hT (by omega) (by omega) hC
end Go.Proofs.YtfoeihbajichpaaDoor
