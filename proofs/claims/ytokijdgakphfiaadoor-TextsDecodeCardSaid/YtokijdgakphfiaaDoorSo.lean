
/- Check and Answer. The table reads as strings; the two tables of unicode/utf8 are as the program lays them. -/
import Derived.Test.YtokijdgakphfiaaDoorChecked
import Derived.Deep.RegionHeld3
import Derived.Deep.DrawnRows
import Derived.Deep.DeepCutAuto
import Derived.Deep.LoopGhost
import Derived.Outline
import Derived.Handy
import Derived.OwnWalk
import Derived.Test.YtokijdgakphfiaaDoorSn
namespace Go.Proofs.YtokijdgakphfiaaDoor
open Go.RowKit
attribute [local go_sem ↓] Go.wp_at_zero Go.wp_at_succ

def strT : Ty ByteArray := Ty.flat 1 (fun s : ByteArray => [.string s]) (fun s => s.size ≤ 100000) (fun _ => rfl)
theorem str_at {w w' : World} {B n k : Nat} {A : Option Addr} {l : List ByteArray} (h : Sl strT w (low B) A n l) (hb : Below B w w') (hk : k < n) : ∃ x b off, l[k]? = some x ∧ A = some ⟨b, off, none⟩ ∧ b < B ∧ b < w'.heap.size ∧ x.size ≤ 100000 ∧
    w'.cell? ⟨b, off + k, none⟩ = some (.string x) := by
  obtain ⟨x, b, off, cs, hx, hA, hbb, ⟨rfl, h1⟩, hc⟩ := h.at hk
  have hc' := range_below hc hb hbb
  have h0 := hc' 0 _ rfl
  simp only [strT, Ty.flat, Nat.mul_one, Nat.add_zero] at h0
  exact ⟨x, b, off, hx, hA, hbb, World.block_lt_of_cell? w' _ h0, h1, h0⟩
/-- the characters of a string -/
def runesB (s : ByteArray) : List Nat := runesL s.data.toList
/-- why a text has no descriptor, or 0 -/
def encErr (s : ByteArray) : Int := if Lib.validD s.data.toList = true then (if 126 < lenU (runesB s) then 3 else 0) else 4
theorem text_of {s : ByteArray} (h : Lib.validD s.data.toList = true) : s = textB (runesB s) ∧ ∀ c ∈ runesB s, okN c := ⟨((back_iff s).2 h).symm, (text_runes h).2⟩
theorem enc_err (s : ByteArray) (w : World) (hs : s.size ≤ 100000) (hT : Tabs w) (he : encErr s ≠ 0) :
    Calls Tryd.prog 14 #[.string s] w fun e w' => e = .returned (.tuple #[.slice none 0 0, .int .i64 (encErr s)]) ∧ Kept w w' := by
  unfold encErr at he ⊢
  by_cases hv : Lib.validD s.data.toList = true
  · rw [if_pos hv] at he ⊢
    by_cases hm : 126 < lenU (runesB s)
    · rw [if_pos hm]
      obtain ⟨h1, h2⟩ := text_of hv
      generalize runesB s = l at *
      subst h1
      exact enc_long l w h2 hs hT hm
    · rw [if_neg hm] at he; exact absurd rfl he
  · rw [if_neg hv]
    exact enc_bad s w hs hT (by simpa using hv)
theorem enc_ok (s : ByteArray) (w : World) (hs : s.size ≤ 100000) (hT : Tabs w) (he : encErr s = 0) :
    Calls Tryd.prog 14 #[.string s] w fun e w' => ∃ g m, m = lenU (runesB s) ∧ m ≤ 126 ∧ e = .returned (.tuple #[.slice (some ⟨g, 0, none⟩) (2 + 2 * m) (2 + 2 * m), .int .i64 0]) ∧ Fill w' g 5 (2 + 2 * m) (.int .u8 0) (u8C (toldL (unitsN (runesB s)))) ∧ w.heap.size ≤ g ∧ g < w'.heap.size ∧ Kept w w' := by
  unfold encErr at he
  by_cases hv : Lib.validD s.data.toList = true
  · rw [if_pos hv] at he
    by_cases hm : 126 < lenU (runesB s)
    · rw [if_pos hm] at he; cases he
    · obtain ⟨h1, h2⟩ := text_of hv
      generalize runesB s = l at *
      subst h1
      exact (enc_any l w h2 hs hT (by omega)).mono fun e w' ⟨g, h1, h2, h3, h4, h5⟩ => ⟨g, _, rfl, by omega, h1, h2, h3, h4, h5⟩
  · rw [if_neg hv] at he; cases he
/-- the first error of texts, or 0 -/
def firstErr : List ByteArray → Int
  | [] => 0
  | s :: l => if encErr s = 0 then firstErr l else encErr s
def checkErr (l : List ByteArray) : Int := if 64 < l.length then 3 else firstErr l
theorem firstErr_ok {l : List ByteArray} (h : firstErr l = 0) : ∀ s ∈ l, encErr s = 0 := by
  induction l with
  | nil => intro s hs; cases hs
  | cons x l ih =>
    unfold firstErr at h
    by_cases hx : encErr x = 0
    · rw [if_pos hx] at h
      intro s hs
      rcases List.mem_cons.1 hs with rfl | hs
      · exact hx
      · exact ih h s hs
    · rw [if_neg hx] at h; exact absurd h hx
theorem drop_atB {α : Type} {us : List α} {k : Nat} {x : α} (h : us[k]? = some x) : us.drop k = x :: us.drop (k + 1) := by
  obtain ⟨hk, e⟩ := List.getElem?_eq_some_iff.1 h
  rw [List.drop_eq_getElem_cons hk, e]
set_option maxRecDepth 100000 in
set_option maxHeartbeats 1000000 in
theorem chk_any (A : Option Addr) (n c : Nat) (l : List ByteArray) (w : World) (hn : n ≤ 1000) (hl : Sl strT w (low w.heap.size) A n l) (hT : Tabs w) :
    Calls Tryd.prog 19 #[.slice A n c] w fun e w' => e = .returned (.int .i64 (checkErr l)) ∧ Kept w w' := by
  have Hl := hide hl.1
  by_cases h64 : 64 < n
  · have hr := hide (show checkErr l = 3 by unfold checkErr; rw [Hl.out, if_pos h64])
    have h64' : (64 : Int) < (n : Int) := by omega
    clear h64
    go_enter Tryd.func19, Tryd.ntmps19
    go_wp2_with fail
    go_ret
    exact ⟨by rw [hr.out]; rfl, Below.refl _ _⟩
  · have hr := hide (show checkErr l = firstErr l by unfold checkErr; rw [Hl.out, if_neg h64])
    have h64' : (n : Int) ≤ 64 := by omega
    clear h64
    go_enter Tryd.func19, Tryd.ntmps19
    go_wp2_with fail
    go_loopg [12] n (fun gf s12 wr => ∃ k : Nat, k + gf = n ∧ s12 = .int .i64 k ∧ Hid (firstErr l = firstErr (l.drop k)) ∧ Kept w wr)
    case atStart => exact ⟨0, by omega, rfl, hide rfl, Below.refl _ _⟩
    case round =>
      obtain ⟨k, hk9, rfl, Hf, hkw⟩ := hrel
      have Hk := hide hk9
      have hkn : k ≤ n := by omega
      clear hk9
      by_cases hlt : k < n
      · obtain ⟨x, b, off, hx, rfl, hbw, hbr, hxs, e0⟩ := str_at hl hkw hlt
        have hlt' : (k : Int) < (n : Int) := by omega
        have hT2 := hT.below hkw
        have Hd := hide (drop_atB hx)
        clear hx
        by_cases he : encErr x = 0
        · have hc := enc_ok x wr hxs hT2 he
          have Hf2 := hide (show firstErr l = firstErr (l.drop (k + 1)) by rw [Hf.out, Hd.out, firstErr, if_pos he])
          clear he
          go_wp2_with (go_at_call 14; refine hc.mono ?_; rintro e w1 ⟨g, m, _, _, rfl, _, _, _, hk1⟩)
          go_roundg (gk - 1)
          case measure => have := Hk.out; omega
          case rel => exact ⟨k + 1, by have := Hk.out; omega, by go_num, Hf2, hkw.trans' hk1⟩
        · have hc := enc_err x wr hxs hT2 he
          have Hf2 := hide (show firstErr l = encErr x by rw [Hf.out, Hd.out, firstErr, if_neg he])
          generalize encErr x = er at *
          have hne : (er != 0) = true := by simpa using he
          have hne2 : (er == 0) = false := by simpa using he
          clear he
          go_wp2_with (go_at_call 14; refine hc.mono ?_; rintro e w1 ⟨rfl, hk1⟩)
          go_ret
          exact ⟨by rw [hr.out, Hf2.out]; rfl, hkw.trans' hk1⟩
      · have Hf2 := hide (show firstErr l = 0 by rw [Hf.out, List.drop_of_length_le (by have := Hl.out; omega)]; rfl)
        have hlt' : (n : Int) ≤ (k : Int) := by omega
        go_wp2_with fail
        go_ret
        exact ⟨by rw [hr.out, Hf2.out]; rfl, hkw⟩
theorem lang_one (A : Option Addr) (c : Nat) (us : List Nat) (w : World) (hu : Sl u16T w (low w.heap.size) A 1 us) :
    Calls Tryd.prog 20 #[.slice A 1 c] w fun e w' => ∃ g, e = .returned (.tuple #[.slice (some ⟨g, 0, none⟩) 4 4, .int .i64 0]) ∧ Fill w' g 5 4 (.int .u8 0) (u8C (toldL us)) ∧ w.heap.size ≤ g ∧ g < w'.heap.size ∧ Kept w w' := by
  refine (lang_any A 1 c us w (by omega) hu).mono ?_
  rintro e w' (⟨h0, _⟩ | ⟨h0, _⟩ | ⟨_, _, h⟩)
  · omega
  · omega
  · exact h
section answer
variable (A : Option Addr) (n c : Nat) (l : List ByteArray) (w : World)
set_option maxRecDepth 100000 in
theorem ans_err (idx lang : Int) (hn : n ≤ 1000) (hl : Sl strT w (low w.heap.size) A n l) (hT : Tabs w) (he : checkErr l ≠ 0) :
    Calls Tryd.prog 18 #[.slice A n c, .int .u8 idx, .int .u16 lang] w fun e w' => e = .returned (.tuple #[.slice none 0 0, .int .i64 (checkErr l)]) ∧ Kept w w' := by
  have hc := chk_any A n c l w hn hl hT
  generalize checkErr l = er at *
  have hne : (er != 0) = true := by simpa using he
  have hne2 : (er == 0) = false := by simpa using he
  clear he
  go_enter Tryd.func18, Tryd.ntmps18
  go_wp2_with (go_at_call 19; refine hc.mono ?_; rintro e w1 ⟨rfl, hk⟩)
  refine bodyPost_ret (v := .tuple #[.slice none 0 0, .int .i64 er]) (by simp [results, Tryd.results18, go_sem]) rfl ?_
  exact ⟨rfl, hk⟩
set_option maxRecDepth 100000 in
theorem ans_zero (lang : Int) (hn : n ≤ 1000) (hl : Sl strT w (low w.heap.size) A n l) (hT : Tabs w) (he : checkErr l = 0) :
    Calls Tryd.prog 18 #[.slice A n c, .int .u8 0, .int .u16 lang] w fun e w' => ∃ g, e = .returned (.tuple #[.slice (some ⟨g, 0, none⟩) 4 4, .int .i64 0]) ∧ Fill w' g 5 4 (.int .u8 0) (u8C (toldL [1033])) ∧ w.heap.size ≤ g ∧ g < w'.heap.size ∧ Kept w w' := by
  have hc := chk_any A n c l w hn hl hT
  rw [he] at hc
  clear he
  go_enter Tryd.func18, Tryd.ntmps18
  go_wp2_with (first
    | (go_at_call 19; refine hc.mono ?_; rintro e w1 ⟨rfl, hk⟩)
    | (go_at_call 20; refine (lang_one _ 1 [1033] _ (sl_block (us := [1033]) (t := 40) (fr := (0, 0)) (heap_at _ rfl) (by simp) (by simp))).mono ?_; rintro e w2 ⟨g, rfl, hF, hg1, hg2, hk2⟩))
  refine bodyPost_ret (v := .tuple #[.slice (some ⟨g, 0, none⟩) 4 4, .int .i64 0]) (by simp [results, Tryd.results18, go_sem]) rfl ?_
  have hk12 : Kept w1 w2 := Below.trans ((Below.refl _ w1).alloc (Nat.le_refl _) _) (hk2.mono (by simp))
  exact ⟨g, rfl, hF, by have := hk.size; simp at hg1; omega, hg2, hk.trans' hk12⟩
set_option maxRecDepth 100000 in
theorem ans_none (idx lang : Int) (hn : n ≤ 1000) (hl : Sl strT w (low w.heap.size) A n l) (hT : Tabs w) (he : checkErr l = 0) (h0 : 0 < idx) (h1 : idx < 256) (hno : (n : Int) < idx ∨ lang ≠ 1033) :
    Calls Tryd.prog 18 #[.slice A n c, .int .u8 idx, .int .u16 lang] w fun e w' => e = .returned (.tuple #[.slice none 0 0, .int .i64 7]) ∧ Kept w w' := by
  have hc := chk_any A n c l w hn hl hT
  rw [he] at hc
  clear he
  have hne : (idx == 0) = false := by simp; omega
  by_cases h2 : (n : Int) < idx
  · clear hno
    go_enter Tryd.func18, Tryd.ntmps18
    go_wp2_with (go_at_call 19; refine hc.mono ?_; rintro e w1 ⟨rfl, hk⟩)
    refine bodyPost_ret (v := .tuple #[.slice none 0 0, .int .i64 7]) (by simp [results, Tryd.results18, go_sem]) rfl ?_
    exact ⟨rfl, hk⟩
  · have h3 : idx ≤ (n : Int) := by omega
    have h4 : (lang != 1033) = true := by rcases hno with h | h; omega; simpa using h
    clear hno h2
    go_enter Tryd.func18, Tryd.ntmps18
    go_wp2_with (go_at_call 19; refine hc.mono ?_; rintro e w1 ⟨rfl, hk⟩)
    refine bodyPost_ret (v := .tuple #[.slice none 0 0, .int .i64 7]) (by simp [results, Tryd.results18, go_sem]) rfl ?_
    exact ⟨rfl, hk⟩
set_option maxRecDepth 100000 in
theorem ans_text (k : Nat) (s : ByteArray) (hn : n ≤ 1000) (hl : Sl strT w (low w.heap.size) A n l) (hT : Tabs w) (he : checkErr l = 0) (hk : k < n) (hk2 : k < 255) (hs : l[k]? = some s) :
    Calls Tryd.prog 18 #[.slice A n c, .int .u8 ((k : Int) + 1), .int .u16 1033] w fun e w' => ∃ g m, m = lenU (runesB s) ∧ m ≤ 126 ∧ e = .returned (.tuple #[.slice (some ⟨g, 0, none⟩) (2 + 2 * m) (2 + 2 * m), .int .i64 0]) ∧ Fill w' g 5 (2 + 2 * m) (.int .u8 0) (u8C (toldL (unitsN (runesB s)))) ∧ w.heap.size ≤ g ∧ g < w'.heap.size ∧ Kept w w' := by
  have hc := chk_any A n c l w hn hl hT
  have hes : encErr s = 0 := by
    unfold checkErr at he
    split at he
    · cases he
    · exact firstErr_ok he s (List.mem_of_getElem? hs)
  rw [he] at hc
  have Hs := hide hs
  have Hes := hide hes
  have Hl := hide hl
  have hk3 : (k : Int) + 1 ≤ (n : Int) := by omega
  have hk4 : (k : Int) < (n : Int) := by omega
  have hk5 : (k : Int) < 255 := by omega
  have hne : ((k : Int) + 1 == 0) = false := by simp; omega
  clear he hs hes hl
  go_enter Tryd.func18, Tryd.ntmps18
  go_wp2_with (first
    | (go_at_call 19; refine hc.mono ?_; rintro e w1 ⟨rfl, hkw⟩; obtain ⟨x, b, off, hx, rfl, hbw, hbr, hxs, e0⟩ := str_at Hl.out hkw hk; have HX := hide (show x = s by have h := Hs.out; rw [hx] at h; exact Option.some.inj h); clear hx; have HT2 := hide (hT.below hkw))
    | (go_at_call 14; refine (enc_ok x _ hxs HT2.out (by rw [HX.out]; exact Hes.out)).mono ?_; rintro e w2 ⟨g, m, hm1, hm2, rfl, hF, hg1, hg2, hk2⟩; have Hm1 := hide hm1; clear hm1))
  refine bodyPost_ret (v := .tuple #[.slice (some ⟨g, 0, none⟩) (2 + 2 * m) (2 + 2 * m), .int .i64 0]) (by simp [results, Tryd.results18, go_sem]) rfl ?_
  have hm1 := Hm1.out
  rw [HX.out] at hF hm1
  exact ⟨g, m, hm1, hm2, rfl, hF, Nat.le_trans hkw.size hg1, hg2, hkw.trans' hk2⟩
end answer
end Go.Proofs.YtokijdgakphfiaaDoor
