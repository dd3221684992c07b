
/- The examples of the chapter. The two tables of unicode/utf8 are as the program lays them. -/
import Derived.Test.YtokijdgakphfiaaDoorChecked
import Derived.Deep.RegionHeld3
import Derived.Deep.DrawnRows
import Derived.Deep.DeepCutAuto
import Derived.Deep.LoopGhost
import Derived.Outline
import Derived.Handy
import Derived.OwnWalk
import Derived.Laws.IdiomStrings
import Derived.Test.YtokijdgakphfiaaDoorSo
namespace Go.Proofs.YtokijdgakphfiaaDoor
open Go.RowKit
attribute [local go_sem ↓] Go.wp_at_zero Go.wp_at_succ

theorem Fill.kept {w w' : World} {g cap : Nat} {t : TypeId} {z : Value} {cs : List Value} (h : Fill w g t cap z cs) (hk : Kept w w') : Fill w' g t cap z cs := ⟨heap_kept hk h.1, h.2⟩
/-- the string of bytes that fill a block -/
theorem fill_string {w : World} {g n : Nat} {z : Value} {bs : List UInt8} (h : Fill w g 5 n z (u8C bs)) (hl : bs.length = n) (c : Nat) : (convert 30 9 (.slice (some ⟨g, 0, none⟩) n c)).run Tryd.prog w = .ok (.string ⟨bs.toArray⟩) w := by
  subst hl
  have h1 := h.1
  rw [u8C_len, Nat.sub_self, List.replicate_zero, List.append_nil] at h1
  exact run_convert_bytes_back (P := Tryd.prog) w 30 9 5 ⟨g, 0, none⟩ c bs Tryd.underlying30 Tryd.underlying5 Tryd.underlying9 (fun j hj => by
    rw [Addr.add_mid, cell_of_row _ _ _ _ _ _ h1]
    simp [u8C, hj])
theorem fill_bytes {w : World} {g n : Nat} {z : Value} {bs : List UInt8} (h : Fill w g 5 n z (u8C bs)) (hl : bs.length = n) : Sl byT w (low w.heap.size) (some ⟨g, 0, none⟩) n bs := by
  subst hl
  have h1 := h.1
  rw [u8C_len, Nat.sub_self, List.replicate_zero, List.append_nil] at h1
  exact ⟨rfl, fun i x hx => ⟨g, 0, _, rfl, heap_lt h1, ⟨rfl, trivial⟩, range_cons (by
    rw [cell_of_row _ _ _ _ _ _ h1]
    simp [u8C, byT, Ty.flat, hx]) range_nil⟩⟩
theorem runesB_text {l : List Nat} (h : ∀ c ∈ l, okN c) : runesB (textB l) = l := by unfold runesB; rw [textB_list]; exact runes_text h
theorem encErr_text {l : List Nat} (h : ∀ c ∈ l, okN c) : encErr (textB l) = if 126 < lenU l then 3 else 0 := by
  unfold encErr
  rw [textB_list, if_pos (valid_text l h), runesB_text h]
theorem strX : (⟨#[120]⟩ : ByteArray) = textB [120] := by rfl
theorem okX : ∀ c ∈ [120], okN c := by intro c hc; simp at hc; subst hc; exact .inl (by omega)
theorem chkX : checkErr [⟨#[120]⟩] = 0 := by
  rw [strX]
  unfold checkErr
  rw [if_neg (by simp), firstErr, encErr_text okX, if_pos (by decide)]; rfl
theorem slX {w : World} {b : Nat} (h : w.heap[b]? = some (.cells #[.string ⟨#[120]⟩] 9 (0, 0))) : Sl strT w (low w.heap.size) (some ⟨b, 0, none⟩) 1 [⟨#[120]⟩] :=
  Sl.one (heap_lt h) ⟨rfl, by decide⟩ (range_cons (by rw [cell_of_row _ _ _ _ _ _ h]; rfl) range_nil)
theorem ansX0 {w : World} {b : Nat} (hT : Tabs w) (h : w.heap[b]? = some (.cells #[.string ⟨#[120]⟩] 9 (0, 0))) :
    Calls Tryd.prog 18 #[.slice (some ⟨b, 0, none⟩) 1 1, .int .u8 0, .int .u16 7] w fun e w' => ∃ g, e = .returned (.tuple #[.slice (some ⟨g, 0, none⟩) 4 4, .int .i64 0]) ∧ Fill w' g 5 4 (.int .u8 0) (u8C [4, 3, 9, 4]) ∧ Kept w w' :=
  (ans_zero _ 1 1 _ w 7 (by omega) (slX h) hT chkX).mono fun _ _ ⟨g, h1, h2, _, _, h3⟩ => ⟨g, h1, h2, h3⟩
theorem ansX1 {w : World} {b : Nat} (hT : Tabs w) (h : w.heap[b]? = some (.cells #[.string ⟨#[120]⟩] 9 (0, 0))) :
    Calls Tryd.prog 18 #[.slice (some ⟨b, 0, none⟩) 1 1, .int .u8 1, .int .u16 1033] w fun e w' => ∃ g, e = .returned (.tuple #[.slice (some ⟨g, 0, none⟩) 4 4, .int .i64 0]) ∧ Fill w' g 5 4 (.int .u8 0) (u8C [4, 3, 120, 0]) ∧ Kept w w' := by
  refine (ans_text _ 1 1 _ w 0 _ (by omega) (slX h) hT chkX (by omega) (by omega) rfl).mono ?_
  rintro e w' ⟨g, m, h1, _, h2, h3, _, _, h4⟩
  rw [strX, runesB_text okX] at h1 h3
  have hm : m = 1 := h1
  subst hm
  exact ⟨g, h2, h3, h4⟩
theorem ansX2 {w : World} {b : Nat} (hT : Tabs w) (h : w.heap[b]? = some (.cells #[.string ⟨#[120]⟩] 9 (0, 0))) :
    Calls Tryd.prog 18 #[.slice (some ⟨b, 0, none⟩) 1 1, .int .u8 1, .int .u16 1031] w fun e w' => e = .returned (.tuple #[.slice none 0 0, .int .i64 7]) ∧ Kept w w' :=
  ans_none _ 1 1 _ w 1 1031 (by omega) (slX h) hT chkX (by omega) (by omega) (.inr (by decide))
theorem ansX3 {w : World} {b : Nat} (hT : Tabs w) (h : w.heap[b]? = some (.cells #[.string ⟨#[120]⟩] 9 (0, 0))) :
    Calls Tryd.prog 18 #[.slice (some ⟨b, 0, none⟩) 1 1, .int .u8 2, .int .u16 1033] w fun e w' => e = .returned (.tuple #[.slice none 0 0, .int .i64 7]) ∧ Kept w w' :=
  ans_none _ 1 1 _ w 2 1033 (by omega) (slX h) hT chkX (by omega) (by omega) (.inl (by decide))
theorem encX1 {w : World} (hT : Tabs w) : Calls Tryd.prog 14 #[.string ⟨#[65, 195, 169]⟩] w fun e w' => ∃ g, e = .returned (.tuple #[.slice (some ⟨g, 0, none⟩) 6 6, .int .i64 0]) ∧ Fill w' g 5 6 (.int .u8 0) (u8C [6, 3, 65, 0, 233, 0]) ∧ Kept w w' :=
  (enc_any [65, 233] w (by intro c hc; simp at hc; unfold okN; omega) (by decide) hT (by decide)).mono fun _ _ ⟨g, h1, h2, _, _, h3⟩ => ⟨g, h1, h2, h3⟩
theorem encX2 {w : World} (hT : Tabs w) : Calls Tryd.prog 14 #[.string ⟨#[240, 159, 152, 128]⟩] w fun e w' => ∃ g, e = .returned (.tuple #[.slice (some ⟨g, 0, none⟩) 6 6, .int .i64 0]) ∧ Fill w' g 5 6 (.int .u8 0) (u8C [6, 3, 61, 216, 0, 222]) ∧ Kept w w' :=
  (enc_any [128512] w (by intro c hc; simp at hc; unfold okN; omega) (by decide) hT (by decide)).mono fun _ _ ⟨g, h1, h2, _, _, h3⟩ => ⟨g, h1, h2, h3⟩
theorem cutX {w : World} (hT : Tabs w) : Calls Tryd.prog 17 #[.string ⟨#[97, 240, 159, 152, 128]⟩, .int .i64 2] w fun e w' => e = .returned (.tuple #[.string ⟨#[97]⟩, .int .i64 0]) ∧ Kept w w' :=
  cut_any [97, 128512] 2 w (by intro c hc; simp at hc; unfold okN; omega) (by decide) hT (by decide) (by decide)
theorem decX {w : World} {b : Nat} (h : w.heap[b]? = some (.cells #[.int .u8 4, .int .u8 3, .int .u8 61, .int .u8 216] 5 (0, 0))) :
    Calls Tryd.prog 15 #[.slice (some ⟨b, 0, none⟩) 4 4] w fun e w' => e = .returned (.tuple #[.string ⟨#[]⟩, .int .i64 4]) ∧ Kept w w' := by
  refine (dec_any _ 4 4 [4, 3, 61, 216] w (by omega) (fill_bytes (z := .int .u8 0) ⟨h, Nat.le_refl _⟩ rfl)).mono ?_
  rintro e w' (⟨h1, _⟩ | ⟨_, _, h2, h3⟩ | ⟨_, _, l, h2, _⟩)
  · exact absurd h1 (by unfold badWidth; decide)
  · exact ⟨h2, h3⟩
  · have h3 : joinU (numsL (List.drop 2 [4, 3, 61, 216])) = none := by decide
    rw [h3] at h2; cases h2
set_option maxRecDepth 100000 in
set_option maxHeartbeats 2000000 in
theorem lives_any (w : World) (hT : Tabs w) : Calls Tryd.prog 10 #[] w fun e w' => e = .returned (.bool true) ∧ Kept w w' := by
  have HT := hide hT
  clear hT
  go_enter Tryd.func10, Tryd.ntmps10
  go_upto_region 5 with (first
    | (go_at_call 14; with_reducible refine (encX1 HT.out).mono ?_; rintro e w1 ⟨g1, rfl, hF1, hk1⟩; have HT1 := hide (HT.out.below hk1))
    | (go_at_call 14; with_reducible refine (encX2 HT1.out).mono ?_; rintro e w2 ⟨g2, rfl, hF2, hk2⟩; have HT2 := hide (HT1.out.below hk2))
    | (go_at_call 17; with_reducible refine (cutX HT2.out).mono ?_; rintro e w3 ⟨rfl, hk3⟩; have HT3 := hide (HT2.out.below hk3))
    | (go_at_call 15; refine (decX (heap_at _ rfl)).mono ?_; rintro e w4 ⟨rfl, hk4⟩))
  have hk34 : Kept w3 w4 := Below.trans ((Below.refl _ w3).alloc (Nat.le_refl _) _) (hk4.mono (by simp))
  have hc1 := fill_string (hF1.kept (hk2.trans' (hk3.trans' hk34))) rfl 6
  have hc2 := fill_string (hF2.kept (hk3.trans' hk34)) rfl 6
  have HT4 := hide (HT3.out.below hk34)
  have HK4 := hide (show Kept w w4 from hk1.trans' (hk2.trans' (hk3.trans' hk34)))
  clear hF1 hF2 hk1 hk2 hk3 hk4 hk34
  go_upto_region 8 with fail
  refine wp_at (fun W => W.heap[w4.heap.size]? = some (.cells #[.string ⟨#[120]⟩] 9 (0, 0)) ∧ Tabs W ∧ Kept w W) ⟨heap_at _ rfl, HT4.out.below ((Below.refl _ w4).alloc (Nat.le_refl _) _), HK4.out.trans' ((Below.refl _ w4).alloc (Nat.le_refl _) _)⟩ (fun W hW => ?_)
  obtain ⟨hx, hTW, hkW⟩ := hW
  have HX := hide hx
  have HTW := hide hTW
  clear hx hTW hc1 hc2
  go_upto_region 12 with (first
    | (go_at_call 18; with_reducible refine (ansX0 HTW.out HX.out).mono ?_; rintro e w5 ⟨g5, rfl, hF5, hk5⟩; have HX5 := hide (heap_kept hk5 HX.out); have HT5 := hide (HTW.out.below hk5))
    | (go_at_call 18; with_reducible refine (ansX1 HT5.out HX5.out).mono ?_; rintro e w6 ⟨g6, rfl, hF6, hk6⟩; have HX6 := hide (heap_kept hk6 HX5.out); have HT6 := hide (HT5.out.below hk6))
    | (go_at_call 18; with_reducible refine (ansX2 HT6.out HX6.out).mono ?_; rintro e w7 ⟨rfl, hk7⟩; have HX7 := hide (heap_kept hk7 HX6.out); have HT7 := hide (HT6.out.below hk7))
    | (go_at_call 18; with_reducible refine (ansX3 HT7.out HX7.out).mono ?_; rintro e w8 ⟨rfl, hk8⟩))
  have hc5 := fill_string (hF5.kept (hk6.trans' (hk7.trans' hk8))) rfl 4
  have hc6 := fill_string (hF6.kept (hk7.trans' hk8)) rfl 4
  have HK8 := hide (show Kept w w8 from hkW.trans' (hk5.trans' (hk6.trans' (hk7.trans' hk8))))
  clear hF5 hF6 hk5 hk6 hk7 hk8 hkW
  go_wp2_with fail
  go_ret
  exact ⟨rfl, HK8.out⟩
end Go.Proofs.YtokijdgakphfiaaDoor
