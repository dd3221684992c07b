/- The law of the chapter on reports, part 16: Yc Ga Gb Va Wc. -/
import Derived.Test.YtegdigfcgeoboaaK15
set_option maxHeartbeats 16000000
set_option linter.unusedVariables false
set_option linter.unusedSimpArgs false
set_option linter.unusedSectionVars false
namespace Go.Proofs.Ytegdigfcgeoboaa
open Go.RowKit
attribute [local go_sem ↓] Go.wp_at_zero Go.wp_at_succ
theorem nodup_filter (d : Int) : ∀ L : List Int, L.Nodup → L.length ≤ (L.filter (· != d)).length + 1
 | [], _ => by simp
 | a :: l, h => by
  by_cases e : a = d
  ·subst e
   have : l.filter (· != a) = l := List.filter_eq_self.2 (fun x hx => by
    simp only [bne_iff_ne, ne_eq]
    rintro rfl
    exact (List.nodup_cons.1 h).1 hx)
   simp [this]
  ·have := nodup_filter d l (List.nodup_cons.1 h).2
   simp [e]
   omega
theorem nodup_le : ∀ D L : List Int, L.Nodup → (∀ x ∈ L, x ∈ D) → L.length ≤ D.length
 | [], L, _, h => by
  cases L with
  | nil => simp
  | cons a l => exact absurd (h a List.mem_cons_self) (by simp)
 | d :: D, L, hn, h => by
  have h1 := nodup_le D (L.filter (· != d)) (hn.filter _) (fun x hx => by
   simp only [List.mem_filter, bne_iff_ne, ne_eq] at hx
   rcases List.mem_cons.1 (h x hx.1) with e | e
   ·exact absurd e hx.2
   ·exact e)
  have h2 := nodup_filter d L hn
  simp only [List.length_cons]
  omega
def NumsIs (l : List Fd) (k : Int) (L : List Int) : Prop := L.Pairwise (· < ·) ∧ ∀ r, r ∈ L ↔ ∃ f ∈ l, f.kind = k ∧ f.report = r
theorem sorted_lt {L ys : List Int} (hn : L.Nodup) (hp : ys.Perm L) (hs : ys.Pairwise (· ≤ ·)) : ys.Pairwise (· < ·) := by
 have h2 : ys.Nodup := (hp.nodup_iff).2 hn
 exact (hs.and h2).imp (fun ⟨a, b⟩ => by omega)
theorem row_of_own {w : World} {base n : Nat} {v : Value} {xs : List Int} (h : Own u8T 5 base w v n xs) : (v = .slice none 0 0 ∧ n = 0) ∨ ∃ g cap, v = .slice (some ⟨g, 0, none⟩) n cap ∧ base ≤ g ∧ n ≤ cap ∧ cap ≤ maxLen ∧ RowU w g xs := by
 obtain ⟨hl, cells, ⟨hc, h | ⟨g, cap, cur, e, hg, hh, hnc, hcm, hsz, htk⟩⟩, hr⟩ := h
 ·exact .inl h
 ·refine .inr ⟨g, cap, e, hg, hnc, hcm, cur, hh, fun i x hx => ?_⟩
  obtain ⟨hi, e1⟩ := List.getElem?_eq_some_iff.1 hx
  obtain ⟨h1, _⟩ := hr i x hx
  have h2 : ((cells.drop (i * 1)).take 1)[0]? = some (.int .u8 x) := by
   have : (cells.drop (i * u8T.size)).take u8T.size = [.int .u8 x] := h1
   have e9 : u8T.size = 1 := rfl
   rw [e9] at this
   rw [this]; rfl
  rw [List.getElem?_take, if_pos (by omega), List.getElem?_drop, Nat.mul_one, Nat.add_zero, ← htk, List.getElem?_take] at h2
  split at h2
  ·simpa using h2
  ·cases h2
theorem RowU.sl8 {w : World} {g n : Nat} {xs : List Int} (h : RowU w g xs) (hn : xs.length = n) (hok : ∀ x ∈ xs, u8k x) : Sl u8T w (low w.heap.size) (some ⟨g, 0, none⟩) n xs :=
 ⟨hn, fun i x hx => ⟨g, 0, [.int .u8 x], rfl, h.lt, ⟨rfl, hok x (List.mem_of_getElem? hx)⟩, fun k v hv => by
  have e9 : u8T.size = 1 := rfl
  rw [e9, Nat.mul_one, Nat.zero_add]
  have h1 := (h.at hx).1
  cases k with
  | zero => simp at hv; subst hv; simpa using h1
  | succ k => simp at hv⟩⟩
theorem kept_row8 {w w1 w2 : World} {g : Nat} (h : Kept w w1) (hg : w1.grownBy w2 (some g)) (hb : w.heap.size ≤ g) : Kept w w2 :=
 ⟨hg.os.trans h.os, hg.tape.trans h.tape, hg.output.trans h.output, Nat.le_trans h.size hg.size, fun k hk => (hg.block k (Nat.lt_of_lt_of_le hk h.size) (fun e => by injection e with e; omega)).trans (h.block k hk)⟩
set_option maxRecDepth 100000 in
theorem numbers20 (A C : Option Addr) (n c nc cc : Nat) (nb : Bool) (l : List Fd) (k : Int) (w : World) (hn3 : n ≤ 300) (hrep : ∀ f ∈ l, 0 ≤ f.report ∧ f.report ≤ 3) (hl : Sl fdM w (low w.heap.size) A n l) :
  Calls Try.prog 20 #[.agg #[.slice A n c, .slice C nc cc, .bool nb], .int .u8 k] w fun e w' => (∃ A' L, e = .returned (.slice A' L.length L.length) ∧ NumsIs l k L ∧ Sl u8T w' (low w'.heap.size) A' L.length L) ∧ Kept w w' := by
 have hn := hl.1
 obtain ⟨i5, hi5, hz0, hz1, hz2⟩ := info_parts info5
 have Hrep := hide hrep
 have Hn := hide hn
 have Hl := hide hl
 clear hn hrep hl
 go_enter Try.func20, Try.ntmps20
 go_wp2_with fail
 refine wp_at (fun W => W.heap[w.heap.size]? = some (.cells #[.slice A n c, .slice C nc cc, .bool nb] 40 (0, 0)) ∧ Kept w W) ⟨heap_at _ rfl, by go_grown⟩ (fun W hW => ?_)
 obtain ⟨hB, hkW⟩ := hW
 have HB := hide hB
 have HkW := hide hkW
 clear hB hkW
 go_loopg [5, 11] n (fun g s5 tP wr => ∃ (i : Nat) (v : Value) (L : List Int), i + g = n ∧ tP = .int .i64 i ∧ s5 = v ∧ Kept w wr ∧ Own u8T 5 w.heap.size wr v L.length L ∧ L.Nodup ∧ (∀ r, r ∈ L ↔ ∃ f ∈ l.take i, f.kind = k ∧ f.report = r))
 case atStart => exact ⟨0, .slice none 0 0, [], by omega, rfl, rfl, HkW.out, Own.nil _ _ _ _, List.nodup_nil, fun r => by simp⟩
 case round =>
  obtain ⟨i, v, L, hi, rfl, hv5, hk, hown, hnd, hmem⟩ := hrel
  replace hv5 := hv5.symm
  subst hv5
  obtain ⟨m, hm⟩ : ∃ m, L.length = m := ⟨_, rfl⟩
  rw [hm] at hown
  have hsub : ∀ x ∈ L, x ∈ [(0 : Int), 1, 2, 3] := fun x hx => by
   obtain ⟨f, hf, _, rfl⟩ := (hmem x).1 hx
   have := Hrep.out f (List.mem_of_mem_take hf)
   simp only [List.mem_cons, List.not_mem_nil, or_false]
   omega
  have hm4 : m ≤ 4 := by rw [← hm]; exact nodup_le _ _ hnd hsub
  have hk8 : ∀ x ∈ L, u8k x := fun x hx => by
   have := hsub x hx
   simp only [List.mem_cons, List.not_mem_nil, or_false] at this
   unfold u8k; omega
  have Hi := hide hi
  have Hnd := hide hnd
  have Hmem := hide hmem
  have Hm := hide hm
  have Hk8 := hide hk8
  have Hk := hide hk
  have Hown := hide hown
  clear hi hnd hmem hm hsub hk8 hown
  by_cases hlt : i < n
  ·obtain ⟨f, b, off, cs, hf, rfl, hbb, ⟨A', c', rfl, hul, _⟩, hcs⟩ := (Hl.out.kept hk).at hlt
   have hcs' : ∀ (j : Nat) v, (f.cellsC A' c')[j]? = some v → wr.cell? ⟨b, off + i * 13 + j, none⟩ = some v := fun j v h => hcs j v h
   have x0 : wr.cell? ⟨b, off + i * 13, none⟩ = _ := hcs' 0 _ rfl
   have x1 := hcs' 1 _ rfl
   have x2 := hcs' 2 _ rfl
   have x3 := hcs' 3 _ rfl
   have x4 := hcs' 4 _ rfl
   have x5 := hcs' 5 _ rfl
   have x6 := hcs' 6 _ rfl
   have x7 := hcs' 7 _ rfl
   have x8 := hcs' 8 _ rfl
   have x9 := hcs' 9 _ rfl
   have x10 := hcs' 10 _ rfl
   have x11 := hcs' 11 _ rfl
   have x12 := hcs' 12 _ rfl
   have hbl : b < wr.heap.size := hbb
   have hi0 : (0 : Int) ≤ (i : Int) := by omega
   have hlt' : (i : Int) < (n : Int) := by omega
   obtain ⟨r0, r1⟩ := Hrep.out f (List.mem_of_getElem? hf)
   have hsn : l.take (i + 1) = l.take i ++ [f] := by
    obtain ⟨h1, h2⟩ := List.getElem?_eq_some_iff.1 hf
    rw [List.take_succ_eq_append_getElem h1, h2]
   obtain ⟨Av, cv, rfl, hv1, hv2⟩ := Hown.out.isSlice
   have hcon : ∀ w2, Kept wr w2 → Calls Try.prog 34 #[.slice Av m cv, .int .u8 f.report] w2 fun e w' => e = .returned (.bool (decide (f.report ∈ L))) ∧ w2 = w' := fun w2 hk2 => contains34 Av m cv L f.report w2 (by unfold maxLen; omega) ((Hown.out.kept hk2).sl)
   have hkz := hk.size
   have Hsn := hide hsn
   clear hcs hcs' hf hsn hk
   by_cases c1 : f.kind = k
   ·have d1 : (f.kind == k) = true := by simpa using c1
    by_cases c2 : f.report ∈ L
    ·have d2 : decide (f.report ∈ L) = true := decide_eq_true c2
     have C := hide (show f.kind = k ∧ f.report ∈ L from ⟨c1, c2⟩)
     clear c1 c2
     go_wp2_with (go_at_call 34; refine (hcon _ (by go_grown)).mono ?_; rintro e w1 ⟨rfl, rfl⟩)
     go_roundg (gk - 1)
     case measure => have := Hi.out; omega
     case rel =>
      refine ⟨i + 1, _, L, by have := Hi.out; omega, by go_num, rfl, Hk.out.trans' (by go_grown), by rw [Hm.out]; exact Hown.out.kept (by go_grown), Hnd.out, fun r => ?_⟩
      rw [Hmem.out r, Hsn.out]
      simp only [List.mem_append, List.mem_cons, List.not_mem_nil, or_false]
      refine ⟨fun ⟨g, h1, h2⟩ => ⟨g, .inl h1, h2⟩, fun ⟨g, h1, h2⟩ => ?_⟩
      rcases h1 with h1 | rfl
      ·exact ⟨g, h1, h2⟩
      ·exact (Hmem.out r).1 (h2.2 ▸ C.out.2)
    ·have d2 : decide (f.report ∈ L) = false := decide_eq_false c2
     have C := hide (show f.kind = k ∧ ¬ f.report ∈ L from ⟨c1, c2⟩)
     clear c1 c2
     go_wp2_with (first
      | (go_at_call 34; refine (hcon _ (by go_grown)).mono ?_; rintro e w1 ⟨rfl, rfl⟩)
      | (at_builtin; go_must (refine wpList_append_el (T := u8T) rfl (.tmp 26) (.tmp 29) 23 rfl w.heap.size 5 i5 _ 1 Try.underlying23 hi5 hz0 hz1 hz2 rfl (show 0 < 1 by decide) _ m L (by rfl) (Hown.out.kept (by go_grown)) (wr.heap.size + 1) _ _ f.report (by rfl) (heap_at _ (by simp)) ⟨rfl, by unfold u8k; omega⟩ (by simp [Value.oneCell']) (by unfold maxLen; omega) (by omega) (by simp; omega) ?_); intro g9 cap9 w9 hown9 hg9 hb9 hat9 hlt9))
     go_roundg (gk - 1)
     case measure => have := Hi.out; omega
     case rel =>
      refine ⟨i + 1, _, L ++ [f.report], by have := Hi.out; omega, by go_num, rfl, Below.trans (Hk.out.trans' (by go_grown)) hb9, by rw [List.length_append, Hm.out]; exact hown9, ?_, fun r => ?_⟩
      ·rw [List.nodup_append]
       refine ⟨Hnd.out, by simp, fun a ha b hb => ?_⟩
       have : b = f.report := by simpa using hb
       rintro rfl
       exact C.out.2 (this ▸ ha)
      ·rw [List.mem_append, Hmem.out r, Hsn.out]
       simp only [List.mem_append, List.mem_cons, List.not_mem_nil, or_false]
       constructor
       ·rintro (⟨g, h1, h2⟩ | rfl)
        ·exact ⟨g, .inl h1, h2⟩
        ·exact ⟨f, .inr rfl, C.out.1, rfl⟩
       ·rintro ⟨g, h1 | rfl, h2⟩
        ·exact .inl ⟨g, h1, h2⟩
        ·exact .inr h2.2.symm
   ·have d1 : (f.kind == k) = false := by simpa using c1
    have C := hide c1
    clear c1
    go_wp2_with fail
    go_roundg (gk - 1)
    case measure => have := Hi.out; omega
    case rel =>
     refine ⟨i + 1, _, L, by have := Hi.out; omega, by go_num, rfl, Hk.out.trans' (by go_grown), by rw [Hm.out]; exact Hown.out.kept (by go_grown), Hnd.out, fun r => ?_⟩
     rw [Hmem.out r, Hsn.out]
     simp only [List.mem_append, List.mem_cons, List.not_mem_nil, or_false]
     refine ⟨fun ⟨g, h1, h2⟩ => ⟨g, .inl h1, h2⟩, fun ⟨g, h1, h2⟩ => ?_⟩
     rcases h1 with h1 | rfl
     ·exact ⟨g, h1, h2⟩
     ·exact absurd h2.1 C.out
  ·have hge : (n : Int) ≤ (i : Int) := by omega
   have hin : i = n := by have := Hi.out; omega
   have hmem2 : ∀ r, r ∈ L ↔ ∃ f ∈ l, f.kind = k ∧ f.report = r := fun r => by
    have := Hmem.out r
    rwa [hin, ← Hn.out, List.take_length] at this
   have Hmem2 := hide hmem2
   clear hmem2 hin hk
   rcases row_of_own Hown.out with ⟨rfl, hz⟩ | ⟨g, cap, rfl, hg, hnc, hcm, hr⟩
   ·have hL : L = [] := List.eq_nil_of_length_eq_zero (by rw [Hm.out, hz])
    subst hz
    go_wp2_with (first
     | (go_at_call 35; refine (sort35_none _).mono ?_; rintro e w2 ⟨rfl, rfl⟩)
     | (go_at_call 25; refine (clip25 none 0 0 (by omega) (by decide) _).mono ?_; rintro e w2 ⟨rfl, rfl⟩))
    go_ret
    exact ⟨⟨none, [], rfl, ⟨List.Pairwise.nil, fun r => by rw [← Hmem2.out r, hL]⟩, Sl.nil _ _ _ _⟩, Hk.out⟩
   ·have hs := sort35 g m cap L wr (by omega) hnc Hm.out hr
    clear hr
    go_wp2_with (first
     | (go_at_call 35; refine hs.mono ?_; rintro e w2 ⟨rfl, ys, hy1, hy2, hy3, hy4⟩)
     | (go_at_call 25; refine (clip25 _ m cap hnc hcm _).mono ?_; rintro e w2 ⟨rfl, rfl⟩))
    go_ret
    have hyl : ys.length = m := hy1.length_eq.trans Hm.out
    exact ⟨⟨some ⟨g, 0, none⟩, ys, by rw [hyl]; rfl, ⟨sorted_lt Hnd.out hy1 hy2, fun r => by rw [hy1.mem_iff, Hmem2.out r]⟩, by rw [hyl]; exact hy3.sl8 hyl (fun x hx => Hk8.out x (hy1.mem_iff.1 hx))⟩, kept_row8 Hk.out hy4 hg⟩
set_option maxRecDepth 100000 in
theorem find23M (A C : Option Addr) (n c nc cc : Nat) (nb : Bool) (l : List Fd) (k u : Int) (w : World) (hn : n ≤ 256) (hcs : ∀ f ∈ l, 1 ≤ f.count ∧ f.count ≤ 256) (hl : Sl fdM w (low w.heap.size) A n l) :
  Calls Try.prog 23 #[.agg #[.slice A n c, .slice C nc cc, .bool nb], .int .u8 k, .int .u32 u] w fun e w' => (∃ a b r, e = .returned (.tuple #[.int .i64 a, .int .i64 b, .int .i64 r]) ∧ FindIs l k u a b r) ∧ Kept w w' := by
 have Hcs := hide hcs
 clear hcs
 go_enter Try.func23, Try.ntmps23
 go_wp2_with fail
 refine wp_at (fun W => Kept w W) (by go_grown) (fun W hkW => ?_)
 have HkW := hide hkW
 clear hkW
 go_loopg [15] n (fun g tQ wr => ∃ i : Nat, i + g = n ∧ tQ = .int .i64 i ∧ Kept W wr ∧ Hid (∀ j g, j < i → l[j]? = some g → ¬ Hit k u g))
 case atStart => exact ⟨0, by omega, rfl, Below.refl _ _, fun j g hj => by omega⟩
 case round =>
  obtain ⟨i, hi, rfl, hk, hno⟩ := hrel
  have Hi := hide hi
  have hkz := hk.size
  clear hi
  by_cases hlt : i < n
  ·obtain ⟨f, b, off, cs, hf, rfl, hbb, ⟨A', c', rfl, hul0, hcm, hsu⟩, hcs⟩ := (hl.kept (HkW.out.trans' hk)).at hlt
   have hcs' : ∀ (j : Nat) v, (f.cellsC A' c')[j]? = some v → wr.cell? ⟨b, off + i * 13 + j, none⟩ = some v := fun j v h => hcs j v h
   have x0 : wr.cell? ⟨b, off + i * 13, none⟩ = _ := hcs' 0 _ rfl
   have x1 := hcs' 1 _ rfl
   have x2 := hcs' 2 _ rfl
   have x3 := hcs' 3 _ rfl
   have x4 := hcs' 4 _ rfl
   have x5 := hcs' 5 _ rfl
   have x6 := hcs' 6 _ rfl
   have x7 := hcs' 7 _ rfl
   have x8 := hcs' 8 _ rfl
   have x9 := hcs' 9 _ rfl
   have x10 := hcs' 10 _ rfl
   have x11 := hcs' 11 _ rfl
   have x12 := hcs' 12 _ rfl
   have hbl : b < wr.heap.size := hbb
   have hul := Nat.le_trans hul0 hcm
   have hi0 : (0 : Int) ≤ (i : Int) := by omega
   have hlt' : (i : Int) < (n : Int) := by omega
   obtain ⟨a3, a4⟩ := Hcs.out f (List.mem_of_getElem? hf)
   have hix : ∀ w' : World, Kept wr w' → Calls Try.prog 36 #[.slice A' f.usages.length c', .int .u32 u] w' fun e w'' => (∃ i, e = .returned (.int .i64 i) ∧ Hid (IdxIs f.usages u i)) ∧ w' = w'' := fun w' hk' => index36 A' _ _ f.usages u w' hul (hsu.kept hk')
   have hul' := hul
   unfold maxLen at hul'
   have hw1 : IntKind.i64.wrap (f.count - 1) = f.count - 1 := by rw [IntKind.wrap_i64]; omega
   have Hf := hide hf
   have next : ¬ Hit k u f → ∀ j g, j < i + 1 → l[j]? = some g → ¬ Hit k u g := fun hnh j g hj hg => by
    by_cases e : j = i
    ·subst e
     rw [Hf.out] at hg
     injection hg with hg
     subst hg
     exact hnh
    ·exact hno.out j g (by omega) hg
   have Next := hide next
   clear hcs hcs' hf hul hsu hul0 next
   by_cases c1 : f.kind = k
   ·have d1 : (f.kind != k) = false := by simpa using c1
    have C1 := hide c1
    clear c1
    cases c2 : f.const with
    | true =>
     rw [c2] at x9
     have Hnh := hide (show ¬ Hit k u f from fun h => by rw [h.2.1] at c2; cases c2)
     clear c2
     go_wp2_with (go_at_call 36; refine (hix _ (by go_grown)).mono ?_; rintro e w1 ⟨⟨z, rfl, hz⟩, rfl⟩)
     go_roundg (gk - 1)
     case measure => have := Hi.out; omega
     case rel => exact ⟨i + 1, by have := Hi.out; omega, by go_num, by go_grown, hide (Next.out Hnh.out)⟩
    | false =>
     rw [c2] at x9
     have C2 := hide c2
     clear c2
     cases c3 : f.array with
     | true =>
      rw [c3] at x10
      have C3 := hide c3
      clear c3
      go_wp2_with (go_at_call 36; refine (hix _ (by go_grown)).mono ?_; rintro e w1 ⟨⟨z, rfl, hz⟩, rfl⟩)
      ·have hzz : z < 0 := by first | assumption | omega
       have Hnh := hide (show ¬ Hit k u f from fun h => by
        rcases idx_mem hz.out with ⟨h1, _⟩ | ⟨_, h1⟩
        ·omega
        ·exact h1 h.2.2)
       go_roundg (gk - 1)
       case measure => have := Hi.out; omega
       case rel => exact ⟨i + 1, by have := Hi.out; omega, by go_num, by go_grown, hide (Next.out Hnh.out)⟩
      ·have hzz : 0 ≤ z := by first | assumption | omega
       have hmem : u ∈ f.usages := by
        rcases idx_mem hz.out with ⟨_, h1⟩ | ⟨h1, _⟩
        ·exact h1
        ·omega
       go_ret3
       refine ⟨⟨i, z, 0, rfl, .inl ⟨i, f, z, Hf.out, ⟨C1.out, C2.out, hmem⟩, hno.out, hz.out, rfl, ?_, rfl⟩⟩, HkW.out.trans' (hk.trans' (by go_grown))⟩
       rw [C3.out]; simp
     | false =>
      rw [c3] at x10
      have C3 := hide c3
      clear c3
      go_wp2_with (go_at_call 36; refine (hix _ (by go_grown)).mono ?_; rintro e w1 ⟨⟨z, rfl, hz⟩, rfl⟩)
      ·have hzz : z < 0 := by first | assumption | omega
       have Hnh := hide (show ¬ Hit k u f from fun h => by
        rcases idx_mem hz.out with ⟨h1, _⟩ | ⟨_, h1⟩
        ·omega
        ·exact h1 h.2.2)
       go_roundg (gk - 1)
       case measure => have := Hi.out; omega
       case rel => exact ⟨i + 1, by have := Hi.out; omega, by go_num, by go_grown, hide (Next.out Hnh.out)⟩
      all_goals
       have hzz : 0 ≤ z := by first | assumption | omega
       have hmem : u ∈ f.usages := by
        rcases idx_mem hz.out with ⟨_, h1⟩ | ⟨h1, _⟩
        ·exact h1
        ·omega
       go_ret3
       refine ⟨⟨i, _, 0, rfl, .inl ⟨i, f, z, Hf.out, ⟨C1.out, C2.out, hmem⟩, hno.out, hz.out, rfl, ?_, rfl⟩⟩, HkW.out.trans' (hk.trans' (by go_grown))⟩
       rw [C3.out]; simp <;> omega
   ·have d1 : (f.kind != k) = true := by simpa using c1
    have Hnh := hide (show ¬ Hit k u f from fun h => c1 h.1)
    clear c1
    go_wp2_with (go_at_call 36; refine (hix _ (by go_grown)).mono ?_; rintro e w1 ⟨⟨z, rfl, hz⟩, rfl⟩)
    go_roundg (gk - 1)
    case measure => have := Hi.out; omega
    case rel => exact ⟨i + 1, by have := Hi.out; omega, by go_num, by go_grown, hide (Next.out Hnh.out)⟩
  ·have hge : (n : Int) ≤ (i : Int) := by omega
   go_wp2_with fail
   go_ret3
   refine ⟨⟨0, 0, 7, rfl, .inr ⟨fun f hf => ?_, rfl, rfl, rfl⟩⟩, HkW.out.trans' hk⟩
   obtain ⟨j, hj, rfl⟩ := List.getElem_of_mem hf
   have hln := hl.1
   exact hno.out j _ (by omega) (List.getElem?_eq_getElem hj)
set_option maxRecDepth 100000 in
theorem length21M (A C : Option Addr) (n c nc cc : Nat) (nb : Bool) (l : List Fd) (k r : Int) (w : World) (hs : SizesOk l) (hl : Sl fdM w (low w.heap.size) A n l) :
  Calls Try.prog 21 #[.agg #[.slice A n c, .slice C nc cc, .bool nb], .int .u8 k, .int .u8 r] w fun e w' => e = .returned (.int .i64 (lenS nb l k r)) ∧ Kept w w' := by
 have hn := hl.1
 have hn2 := hs.1
 have hbt := fun i => bits_le (l.take i) k r (fun f hf => hs.2 f (List.mem_of_mem_take hf))
 have Hs := hide hs
 have Hn := hide hn
 have hn3 : n ≤ 256 := by omega
 clear hs hn hn2
 go_enter Try.func21, Try.ntmps21
 go_wp2_with fail
 refine wp_at (fun W => W.heap[w.heap.size]? = some (.cells #[.slice A n c, .slice C nc cc, .bool nb] 40 (0, 0)) ∧ Kept w W) ⟨heap_at _ rfl, by go_grown⟩ (fun W hW => ?_)
 obtain ⟨hB, hkW⟩ := hW
 have HB := hide hB
 have HkW := hide hkW
 clear hB hkW
 go_loopg [7, 8, 15] n (fun g s7 s8 tQ wr => ∃ i : Nat, i + g = n ∧ tQ = .int .i64 i ∧ s7 = .int .i64 (bitsS (l.take i) k r) ∧ s8 = .bool ((l.take i).any (fun f => f.kind == k && f.report == r)) ∧ Kept W wr)
 case atStart => exact ⟨0, by omega, rfl, rfl, rfl, Below.refl _ _⟩
 case round =>
  obtain ⟨i, hi, rfl, rfl, rfl, hk⟩ := hrel
  have hbi := hbt i
  have hkz := hk.size
  have hli : (l.take i).length ≤ 256 := by rw [List.length_take]; have := Hn.out; omega
  have Hi := hide hi
  have hb40 := heap_kept hk HB.out
  have m2 : wr.cell? ⟨w.heap.size, 2, none⟩ = some (.bool nb) := cell_heap hb40 (o := 2) rfl
  have hml := heap_lt hb40
  clear hi hb40
  obtain ⟨B, hB⟩ : ∃ B, bitsS (l.take i) k r = B := ⟨_, rfl⟩
  obtain ⟨q, hq⟩ : ∃ q, (l.take i).any (fun f => f.kind == k && f.report == r) = q := ⟨_, rfl⟩
  rw [hB] at hbi ⊢
  rw [hq]
  have HB2 := hide hB
  have Hq := hide hq
  obtain ⟨hb1, hb2⟩ := hbi
  have hb3 : B ≤ 2097152 := by omega
  clear hB hq hb2 hli hbt
  by_cases hlt : i < n
  ·obtain ⟨f, b, off, cs, hf, rfl, hbb, ⟨A', c', rfl, hul, _⟩, hcs⟩ := (hl.kept (HkW.out.trans' hk)).at hlt
   have hcs' : ∀ (j : Nat) v, (f.cellsC A' c')[j]? = some v → wr.cell? ⟨b, off + i * 13 + j, none⟩ = some v := fun j v h => hcs j v h
   have x0 : wr.cell? ⟨b, off + i * 13, none⟩ = _ := hcs' 0 _ rfl
   have x1 := hcs' 1 _ rfl
   have x2 := hcs' 2 _ rfl
   have x3 := hcs' 3 _ rfl
   have x4 := hcs' 4 _ rfl
   have x5 := hcs' 5 _ rfl
   have x6 := hcs' 6 _ rfl
   have x7 := hcs' 7 _ rfl
   have x8 := hcs' 8 _ rfl
   have x9 := hcs' 9 _ rfl
   have x10 := hcs' 10 _ rfl
   have x11 := hcs' 11 _ rfl
   have x12 := hcs' 12 _ rfl
   have hbl : b < wr.heap.size := hbb
   have hi0 : (0 : Int) ≤ (i : Int) := by omega
   have hlt' : (i : Int) < (n : Int) := by omega
   obtain ⟨a1, a2, a3, a4⟩ := Hs.out.2 f (List.mem_of_getElem? hf)
   have hsn : l.take (i + 1) = l.take i ++ [f] := by
    obtain ⟨h1, h2⟩ := List.getElem?_eq_some_iff.1 hf
    rw [List.take_succ_eq_append_getElem h1, h2]
   have hbs := bitsS_snoc (l.take i) f k r
   rw [← hsn, HB2.out] at hbs
   have hqs : (l.take (i + 1)).any (fun f => f.kind == k && f.report == r) = (q || (f.kind == k && f.report == r)) := by
    rw [hsn, List.any_append, Hq.out]; simp
   have Hbs := hide hbs
   have Hqs := hide hqs
   have hp1 : f.size * f.count ≤ 32 * f.count := Int.mul_le_mul_of_nonneg_right (by omega) (by omega)
   have hp2 : 1 * f.count ≤ f.size * f.count := Int.mul_le_mul_of_nonneg_right (by omega) (by omega)
   have hw1 : IntKind.i64.wrap (f.size * f.count) = f.size * f.count := by rw [IntKind.wrap_i64]; omega
   have hw2 : IntKind.i64.wrap (B + f.size * f.count) = B + f.size * f.count := by rw [IntKind.wrap_i64]; omega
   have hm1 : min f.size 32 = f.size := by omega
   have hm2 : max f.size 0 = f.size := by omega
   have hm3 : min f.count 256 = f.count := by omega
   have hm4 : max f.count 0 = f.count := by omega
   clear hcs hcs' hf hsn hbs hqs
   by_cases c1 : f.kind = k
   ·by_cases c2 : f.report = r
    ·have e : (f.kind == k && f.report == r) = true := by simp [c1, c2]
     have d1 : (f.kind == k) = true := by simpa using c1
     have d2 : (f.report == r) = true := by simpa using c2
     have E := hide e
     clear e c1 c2
     go_wp2_with fail
     go_roundg (gk - 1)
     case measure => have := Hi.out; omega
     case rel =>
      refine ⟨i + 1, by have := Hi.out; omega, by go_num, ?_, ?_, by go_grown⟩
      ·rw [Hbs.out, E.out]; rfl
      ·rw [Hqs.out, E.out, Bool.or_true]
    ·have e : (f.kind == k && f.report == r) = false := by simp [c2]
     have d1 : (f.kind == k) = true := by simpa using c1
     have d2 : (f.report == r) = false := by simpa using c2
     have E := hide e
     clear e c1 c2
     go_wp2_with fail
     go_roundg (gk - 1)
     case measure => have := Hi.out; omega
     case rel =>
      refine ⟨i + 1, by have := Hi.out; omega, by go_num, ?_, ?_, by go_grown⟩
      ·rw [Hbs.out, E.out]; simp
      ·rw [Hqs.out, E.out, Bool.or_false]
   ·have e : (f.kind == k && f.report == r) = false := by simp [c1]
    have d1 : (f.kind == k) = false := by simpa using c1
    have E := hide e
    clear e c1
    go_wp2_with fail
    go_roundg (gk - 1)
    case measure => have := Hi.out; omega
    case rel =>
     refine ⟨i + 1, by have := Hi.out; omega, by go_num, ?_, ?_, by go_grown⟩
     ·rw [Hbs.out, E.out]; simp
     ·rw [Hqs.out, E.out, Bool.or_false]
  ·have hge : (n : Int) ≤ (i : Int) := by omega
   have hin : i = n := by have := Hi.out; omega
   have htk : l.take i = l := by rw [hin, ← Hn.out]; exact List.take_length
   have h1 := HB2.out
   have h2 := Hq.out
   rw [htk] at h1 h2
   have hR : lenS nb l k r = (B + 7) / 8 + if q && nb then 1 else 0 := by unfold lenS; rw [h1, h2]
   have HR := hide hR
   clear hR h1 h2 htk hin
   have hw1 : IntKind.i64.wrap (B + 7) = B + 7 := by rw [IntKind.wrap_i64]; omega
   cases q with
   | false =>
    go_wp2_with fail
    go_ret
    exact ⟨ret_int (by rw [HR.out]; simp), HkW.out.trans' hk⟩
   | true =>
    cases nb with
    | false =>
     go_wp2_with fail
     go_ret
     exact ⟨ret_int (by rw [HR.out]; simp), HkW.out.trans' hk⟩
    | true =>
     go_wp2_with fail
     go_ret
     exact ⟨ret_int (by rw [HR.out]; simp), HkW.out.trans' hk⟩
def SufIs (us : List Int) (m : Nat) (u : Int) (arr : Bool) (ct i a0 b0 e0 a b e : Int) : Prop :=
 (∃ z : Nat, m ≤ z ∧ us[z]? = some u ∧ (∀ j, m ≤ j → j < z → us[j]? ≠ some u) ∧ a = i ∧ b = (if arr then (z : Int) else min (z : Int) (ct - 1)) ∧ e = 0) ∨ ((∀ j, m ≤ j → us[j]? ≠ some u) ∧ a = a0 ∧ b = b0 ∧ e = e0)
theorem suf_start {us : List Int} {m : Nat} {u : Int} {arr : Bool} {ct i a0 b0 e0 : Int} (h : us.length ≤ m) : SufIs us m u arr ct i a0 b0 e0 a0 b0 e0 :=
 .inr ⟨fun j hj e => by have := (List.getElem?_eq_some_iff.1 e).1; omega, rfl, rfl, rfl⟩
theorem suf_yes {us : List Int} {m : Nat} {u : Int} {arr : Bool} {ct i a0 b0 e0 : Int} (h : us[m]? = some u) : SufIs us m u arr ct i a0 b0 e0 i (if arr then (m : Int) else min (m : Int) (ct - 1)) 0 :=
 .inl ⟨m, Nat.le_refl _, h, fun j h1 h2 => by omega, rfl, rfl, rfl⟩
theorem suf_no {us : List Int} {m : Nat} {u x : Int} {arr : Bool} {ct i a0 b0 e0 a b e : Int} (h : us[m]? = some x) (hx : x ≠ u) (hs : SufIs us (m + 1) u arr ct i a0 b0 e0 a b e) : SufIs us m u arr ct i a0 b0 e0 a b e := by
 have hm : us[m]? ≠ some u := fun e => hx (by rw [h] at e; injection e)
 rcases hs with ⟨z, h1, h2, h3, h4⟩ | ⟨h1, h2⟩
 ·refine .inl ⟨z, by omega, h2, fun j g1 g2 => ?_, h4⟩
  by_cases e : j = m
  ·rw [e]; exact hm
  ·exact h3 j (by omega) g2
 ·refine .inr ⟨fun j g1 => ?_, h2⟩
  by_cases e : j = m
  ·rw [e]; exact hm
  ·exact h1 j (by omega)
def FindSt (l : List Fd) (k u : Int) (m : Nat) (a b e : Int) : Prop :=
 (∃ (i : Nat) (f : Fd) (n : Int), m ≤ i ∧ l[i]? = some f ∧ Hit k u f ∧ (∀ j g, m ≤ j → j < i → l[j]? = some g → ¬ Hit k u g) ∧ IdxIs f.usages u n ∧ a = i ∧ b = (if f.array then n else min n (f.count - 1)) ∧ e = 0) ∨
 ((∀ j g, m ≤ j → l[j]? = some g → ¬ Hit k u g) ∧ a = 0 ∧ b = 0 ∧ e = 7)
theorem find_start {l : List Fd} {k u : Int} : FindSt l k u l.length 0 0 7 := .inr ⟨fun j g h1 h2 => by have := (List.getElem?_eq_some_iff.1 h2).1; omega, rfl, rfl, rfl⟩
theorem find_keep {l : List Fd} {k u : Int} {m : Nat} {a b e : Int} {f : Fd} (hf : l[m]? = some f) (hn : ¬ Hit k u f) (h : FindSt l k u (m + 1) a b e) : FindSt l k u m a b e := by
 have hm : ∀ g, l[m]? = some g → ¬ Hit k u g := fun g hg => by rw [hf] at hg; injection hg with hg; rw [← hg]; exact hn
 rcases h with ⟨i, g, z, h1, h2, h3, h4, h5⟩ | ⟨h1, h2⟩
 ·refine .inl ⟨i, g, z, by omega, h2, h3, fun j g' g1 g2 g3 => ?_, h5⟩
  by_cases e : j = m
  ·subst e; exact hm _ g3
  ·exact h4 j g' (by omega) g2 g3
 ·refine .inr ⟨fun j g' g1 g3 => ?_, h2⟩
  by_cases e : j = m
  ·subst e; exact hm _ g3
  ·exact h1 j g' (by omega) g3
theorem find_step {l : List Fd} {k u : Int} {m : Nat} {a0 b0 e0 a b e : Int} {f : Fd} (hf : l[m]? = some f) (hk : f.kind = k) (hc : f.const = false) (hs : SufIs f.usages 0 u f.array f.count (m : Int) a0 b0 e0 a b e) (h : FindSt l k u (m + 1) a0 b0 e0) : FindSt l k u m a b e := by
 rcases hs with ⟨z, _, h2, h3, rfl, rfl, rfl⟩ | ⟨h1, rfl, rfl, rfl⟩
 ·exact .inl ⟨m, f, z, Nat.le_refl _, hf, ⟨hk, hc, List.mem_of_getElem? h2⟩, fun j g g1 g2 => by omega, .inl ⟨z, rfl, h2, fun j hj => h3 j (by omega) hj⟩, rfl, rfl, rfl⟩
 ·refine find_keep hf (fun hh => ?_) h
  obtain ⟨j, hj, hj2⟩ := List.getElem_of_mem hh.2.2
  exact h1 j (by omega) (by rw [List.getElem?_eq_getElem hj, hj2])
theorem find_const {l : List Fd} {k u : Int} {m : Nat} {a b e : Int} {f : Fd} (hf : l[m]? = some f) (hc : f.const = true) (h : FindSt l k u (m + 1) a b e) : FindSt l k u m a b e :=
 find_keep hf (fun hh => by rw [hh.2.1] at hc; cases hc) h
theorem idx_unique {l : List Int} {u a b : Int} (h : IdxIs l u a) (h' : IdxIs l u b) : a = b := by
 rcases h with ⟨i, rfl, h1, h2⟩ | ⟨rfl, h1⟩ <;> rcases h' with ⟨j, rfl, g1, g2⟩ | ⟨rfl, g1⟩
 ·have h3 : ¬ i < j := fun h => g2 i h h1
  have h4 : ¬ j < i := fun h => h2 j h g1
  omega
 ·exact absurd (List.mem_of_getElem? h1) g1
 ·exact absurd (List.mem_of_getElem? g1) h1
 ·rfl
theorem find_unique {l : List Fd} {k u a b e a' b' e' : Int} (h : FindSt l k u 0 a b e) (h' : FindIs l k u a' b' e') : a' = a ∧ b' = b ∧ e' = e := by
 rcases h with ⟨i, f, n, _, h1, h2, h3, h4, rfl, rfl, rfl⟩ | ⟨h1, rfl, rfl, rfl⟩ <;> rcases h' with ⟨i', f', n', g1, g2, g3, g4, rfl, rfl, rfl⟩ | ⟨g1, rfl, rfl, rfl⟩
 ·have q1 : ¬ i < i' := fun h => g3 i f h h1 h2
  have q2 : ¬ i' < i := fun h => h3 i' f' (by omega) h g1 g2
  obtain rfl : i = i' := by omega
  rw [h1] at g1
  injection g1 with g1
  subst g1
  rw [idx_unique h4 g4]
  exact ⟨rfl, rfl, rfl⟩
 ·exact absurd h2 (g1 f (List.mem_of_getElem? h1))
 ·exact absurd g2 (h1 i' f' (by omega) g1)
 ·exact ⟨rfl, rfl, rfl⟩
def lessN (L : List Int) (i : Int) : Nat := (L.filter (fun y => decide (y < i))).length
theorem lessN_le (L : List Int) (i : Int) : lessN L i ≤ L.length := List.length_filter_le _ _
theorem lessN_zero {L : List Int} {i : Int} (h : ∀ y ∈ L, i ≤ y) : lessN L i = 0 := by
 unfold lessN
 rw [List.filter_eq_nil_iff.2 (fun y hy => by have := h y hy; simp; omega)]
 rfl
theorem lessN_all {L : List Int} {i : Int} (h : ∀ y ∈ L, y < i) : lessN L i = L.length := by
 unfold lessN
 rw [List.filter_eq_self.2 (fun y hy => by simpa using h y hy)]
theorem lessN_cons {a i : Int} {L : List Int} : lessN (a :: L) i = lessN L i + if a < i then 1 else 0 := by
 unfold lessN
 rw [List.filter_cons]
 by_cases h : a < i <;> simp [h]
theorem lessN_at {i : Int} : ∀ {L : List Int}, L.Pairwise (· < ·) → (i ∈ L → L[lessN L i]? = some i ∧ lessN L (i + 1) = lessN L i + 1) ∧ (i ∉ L → lessN L (i + 1) = lessN L i)
 | [], _ => ⟨fun h => absurd h List.not_mem_nil, fun _ => rfl⟩
 | a :: L, hp => by
  obtain ⟨h1, h2⟩ := List.pairwise_cons.1 hp
  have ih := lessN_at (i := i) h2
  have e0 := lessN_cons (a := a) (i := i) (L := L)
  have e1 := lessN_cons (a := a) (i := i + 1) (L := L)
  refine ⟨fun hm => ?_, fun hm => ?_⟩
  ·rcases List.mem_cons.1 hm with rfl | hm
   ·have z0 : lessN L i = 0 := lessN_zero (fun y hy => by have := h1 y hy; omega)
    have z1 : lessN L (i + 1) = 0 := lessN_zero (fun y hy => by have := h1 y hy; omega)
    rw [if_neg (by omega)] at e0
    rw [if_pos (by omega)] at e1
    rw [e0, e1, z0, z1]
    exact ⟨rfl, rfl⟩
   ·have hlt := h1 i hm
    obtain ⟨g1, g2⟩ := ih.1 hm
    rw [if_pos hlt] at e0
    rw [if_pos (by omega)] at e1
    rw [e0, e1, g2]
    exact ⟨by rw [List.getElem?_cons_succ]; exact g1, rfl⟩
  ·have hne : a ≠ i := fun e => hm (by rw [e]; exact List.mem_cons_self)
   have g := ih.2 (fun h => hm (List.mem_cons_of_mem _ h))
   rw [e0, e1, g]
   by_cases h : a < i
   ·rw [if_pos h, if_pos (by omega)]
   ·rw [if_neg h, if_neg (by omega)]
def HasIs (W : World) (HB : Nat) (S : Int → Bool) : Prop := ∃ cs : Array Value, W.heap[HB]? = some (.cells cs 99 (0, 0)) ∧ cs.size = 256 ∧ ∀ r : Nat, r < 256 → cs[r]? = some (.bool (S (r : Int)))
theorem HasIs.keep {W W' : World} {HB : Nat} {S : Int → Bool} (h : HasIs W HB S) (hk : Kept W W') : HasIs W' HB S := by
 obtain ⟨cs, h1, h2⟩ := h
 exact ⟨cs, heap_kept hk h1, h2⟩
theorem HasIs.at {W : World} {HB : Nat} {S : Int → Bool} (h : HasIs W HB S) {r : Nat} (hr : r < 256) : W.cell? ⟨HB, r, none⟩ = some (.bool (S (r : Int))) ∧ W.frozen? ⟨HB, r, none⟩ = false ∧ HB < W.heap.size := by
 obtain ⟨cs, h1, _, h3⟩ := h
 exact ⟨cell_heap h1 (h3 r hr), frozen_heap h1, heap_lt h1⟩
theorem HasIs.put {W : World} {HB : Nat} {S S' : Int → Bool} (h : HasIs W HB S) {r : Nat} (hr : r < 256) (hS : ∀ q : Nat, q < 256 → S' (q : Int) = if q = r then true else S (q : Int)) : HasIs (W.setCell ⟨HB, r, none⟩ (.bool true)) HB S' := by
 obtain ⟨cs, h1, h2, h3⟩ := h
 refine ⟨_, heap_store h1 _, by rw [Array.size_setIfInBounds]; exact h2, fun q hq => ?_⟩
 rw [hS q hq]
 by_cases e : q = r
 ·subst e
  rw [if_pos rfl]
  simp [h2, hq]
 ·rw [if_neg e, Array.getElem?_setIfInBounds_ne (fun h => e h.symm)]
  exact h3 q hq
def itemZ (n : Int) (sg : Bool) : Nat := if (sg && (decide (n < -32768) || decide (32767 < n))) || (!sg && decide (65535 < n)) then 4 else if (sg && (decide (n < -128) || decide (127 < n))) || (!sg && decide (255 < n)) then 2 else 1
def itemS (t g n : Int) (sg : Bool) : It := ⟨t, g, itemZ n sg, n % 256 ^ itemZ n sg⟩
theorem itemS_ok {t g n : Int} {sg : Bool} (ht : 0 ≤ t ∧ t ≤ 2) (hg : 0 ≤ g ∧ g ≤ 15) : (itemS t g n sg).wide = true ∧ (itemS t g n sg).ok := by
 have hz : itemZ n sg = 4 ∨ itemZ n sg = 2 ∨ itemZ n sg = 1 := by
  unfold itemZ
  split
  ·exact .inl rfl
  ·split
   ·exact .inr (.inl rfl)
   ·exact .inr (.inr rfl)
 unfold itemS It.wide It.ok u8k i64k u32k
 rcases hz with e | e | e <;> rw [e] <;> simp <;> omega
set_option maxRecDepth 100000 in
theorem item17u (t g n : Int) (h0 : 0 ≤ n) (h1 : n < 4294967296) (w : World) : Calls Try.prog 17 #[.int .u8 t, .int .u8 g, .int .i64 n, .bool false] w fun e w' => e = .returned (itV (itemS t g n false)) ∧ Kept w w' := by
 obtain ⟨SG, hSG⟩ : ∃ b, b = false := ⟨_, rfl⟩
 have hw : IntKind.u32.wrap n = n := by rw [IntKind.wrap_u32]; omega
 by_cases c1 : 65535 < n
 ·have hz : itemZ n false = 4 := by unfold itemZ; simp [c1]
  have c2 : 255 < n := by omega
  rw [show (itemS t g n false) = ⟨t, g, 4, n⟩ by unfold itemS; rw [hz]; show (⟨t, g, 4, n % 256 ^ 4⟩ : It) = _; rw [show n % 256 ^ 4 = n by omega]]
  unfold itV
  clear hz
  go_enter Try.func17, Try.ntmps17
  go_wp2_with fail
  refine bodyPost_ret (v := .agg #[.int .u8 t, .int .u8 g, .int .i64 4, .int .u32 n]) (by simp [results, Try.results17, go_sem]) rfl ⟨rfl, by go_grown⟩
 by_cases c2 : 255 < n
 ·have hz : itemZ n false = 2 := by unfold itemZ; simp [c1, c2]
  rw [show (itemS t g n false) = ⟨t, g, 2, n⟩ by unfold itemS; rw [hz]; show (⟨t, g, 2, n % 256 ^ 2⟩ : It) = _; rw [show n % 256 ^ 2 = n by omega]]
  unfold itV
  clear hz
  have hm : n % 65536 = n := by omega
  have c1' : n ≤ 65535 := by omega
  go_enter Try.func17, Try.ntmps17
  go_wp2_with fail
  go_region
  all_goals
   go_wp2_with fail
   refine bodyPost_ret (v := .agg #[.int .u8 t, .int .u8 g, .int .i64 2, .int .u32 n]) (by simp [results, Try.results17, go_sem]) rfl ⟨rfl, by go_grown⟩
 ·have hz : itemZ n false = 1 := by unfold itemZ; simp [c1, c2]
  rw [show (itemS t g n false) = ⟨t, g, 1, n⟩ by unfold itemS; rw [hz]; show (⟨t, g, 1, n % 256 ^ 1⟩ : It) = _; rw [show n % 256 ^ 1 = n by omega]]
  unfold itV
  clear hz
  have hm : n % 256 = n := by omega
  have c1' : n ≤ 65535 := by omega
  have c2' : n ≤ 255 := by omega
  go_enter Try.func17, Try.ntmps17
  go_wp2_with fail
  go_region
  all_goals
   go_wp2_with fail
   refine bodyPost_ret (v := .agg #[.int .u8 t, .int .u8 g, .int .i64 1, .int .u32 n]) (by simp [results, Try.results17, go_sem]) rfl ⟨rfl, by go_grown⟩
set_option maxRecDepth 100000 in
theorem item17s (t g n : Int) (h0 : -32768 ≤ n) (h1 : n < 2147483648) (w : World) : Calls Try.prog 17 #[.int .u8 t, .int .u8 g, .int .i64 n, .bool true] w fun e w' => e = .returned (itV (itemS t g n true)) ∧ Kept w w' := by
 have hcase : 32767 < n ∨ (127 < n ∧ n ≤ 32767) ∨ n < -128 ∨ (0 ≤ n ∧ n ≤ 127) ∨ (-128 ≤ n ∧ n < 0) := by omega
 rcases hcase with c | ⟨c, d⟩ | c | ⟨c, d⟩ | ⟨c, d⟩
 ·have hz : itemZ n true = 4 := by unfold itemZ; simp only [Bool.true_and, Bool.not_true, Bool.false_and, Bool.or_false]; first | rw [if_pos (by simp; omega)] | rw [if_neg (by simp; omega), if_pos (by simp; omega)] | rw [if_neg (by simp; omega), if_neg (by simp; omega)]
  rw [show (itemS t g n true) = ⟨t, g, 4, n⟩ by unfold itemS; rw [hz]; show (⟨t, g, 4, n % 256 ^ 4⟩ : It) = _; rw [show n % 256 ^ 4 = n by omega]]
  unfold itV
  clear hz
  have c2 : 127 < n := by omega
  have c3 : ¬ n < -128 := by omega
  have c4 : ¬ n < -32768 := by omega
  have hw : IntKind.u32.wrap n = n := by rw [IntKind.wrap_u32]; omega
  go_enter Try.func17, Try.ntmps17
  go_wp2_with fail
  try go_region
  all_goals
   go_wp2_with fail
   refine bodyPost_ret (v := .agg #[.int .u8 t, .int .u8 g, .int .i64 4, .int .u32 (n)]) (by simp [results, Try.results17, go_sem]) rfl ⟨rfl, by go_grown⟩
 ·have hz : itemZ n true = 2 := by unfold itemZ; simp only [Bool.true_and, Bool.not_true, Bool.false_and, Bool.or_false]; first | rw [if_pos (by simp; omega)] | rw [if_neg (by simp; omega), if_pos (by simp; omega)] | rw [if_neg (by simp; omega), if_neg (by simp; omega)]
  rw [show (itemS t g n true) = ⟨t, g, 2, n⟩ by unfold itemS; rw [hz]; show (⟨t, g, 2, n % 256 ^ 2⟩ : It) = _; rw [show n % 256 ^ 2 = n by omega]]
  unfold itV
  clear hz
  have c3 : ¬ n < -128 := by omega
  have c4 : ¬ n < -32768 := by omega
  have c5 : ¬ 32767 < n := by omega
  have hm : n % 65536 = n := by omega
  have hw : IntKind.u32.wrap n = n := by rw [IntKind.wrap_u32]; omega
  go_enter Try.func17, Try.ntmps17
  go_wp2_with fail
  try go_region
  all_goals
   go_wp2_with fail
   refine bodyPost_ret (v := .agg #[.int .u8 t, .int .u8 g, .int .i64 2, .int .u32 (n)]) (by simp [results, Try.results17, go_sem]) rfl ⟨rfl, by go_grown⟩
 ·have hz : itemZ n true = 2 := by unfold itemZ; simp only [Bool.true_and, Bool.not_true, Bool.false_and, Bool.or_false]; first | rw [if_pos (by simp; omega)] | rw [if_neg (by simp; omega), if_pos (by simp; omega)] | rw [if_neg (by simp; omega), if_neg (by simp; omega)]
  rw [show (itemS t g n true) = ⟨t, g, 2, n + 65536⟩ by unfold itemS; rw [hz]; show (⟨t, g, 2, n % 256 ^ 2⟩ : It) = _; rw [show n % 256 ^ 2 = n + 65536 by omega]]
  unfold itV
  clear hz
  have c4 : ¬ n < -32768 := by omega
  have c5 : ¬ 32767 < n := by omega
  have hm : (n + 4294967296) % 65536 = n + 65536 := by omega
  have hw : IntKind.u32.wrap n = n + 4294967296 := by rw [IntKind.wrap_u32]; omega
  go_enter Try.func17, Try.ntmps17
  go_wp2_with fail
  try go_region
  all_goals
   go_wp2_with fail
   refine bodyPost_ret (v := .agg #[.int .u8 t, .int .u8 g, .int .i64 2, .int .u32 (n + 65536)]) (by simp [results, Try.results17, go_sem]) rfl ⟨rfl, by go_grown⟩
 ·have hz : itemZ n true = 1 := by unfold itemZ; simp only [Bool.true_and, Bool.not_true, Bool.false_and, Bool.or_false]; first | rw [if_pos (by simp; omega)] | rw [if_neg (by simp; omega), if_pos (by simp; omega)] | rw [if_neg (by simp; omega), if_neg (by simp; omega)]
  rw [show (itemS t g n true) = ⟨t, g, 1, n⟩ by unfold itemS; rw [hz]; show (⟨t, g, 1, n % 256 ^ 1⟩ : It) = _; rw [show n % 256 ^ 1 = n by omega]]
  unfold itV
  clear hz
  have c3 : ¬ n < -128 := by omega
  have c6 : ¬ 127 < n := by omega
  have c4 : ¬ n < -32768 := by omega
  have c5 : ¬ 32767 < n := by omega
  have hm : n % 256 = n := by omega
  have hw : IntKind.u32.wrap n = n := by rw [IntKind.wrap_u32]; omega
  go_enter Try.func17, Try.ntmps17
  go_wp2_with fail
  try go_region
  all_goals
   go_wp2_with fail
   refine bodyPost_ret (v := .agg #[.int .u8 t, .int .u8 g, .int .i64 1, .int .u32 (n)]) (by simp [results, Try.results17, go_sem]) rfl ⟨rfl, by go_grown⟩
 ·have hz : itemZ n true = 1 := by unfold itemZ; simp only [Bool.true_and, Bool.not_true, Bool.false_and, Bool.or_false]; first | rw [if_pos (by simp; omega)] | rw [if_neg (by simp; omega), if_pos (by simp; omega)] | rw [if_neg (by simp; omega), if_neg (by simp; omega)]
  rw [show (itemS t g n true) = ⟨t, g, 1, n + 256⟩ by unfold itemS; rw [hz]; show (⟨t, g, 1, n % 256 ^ 1⟩ : It) = _; rw [show n % 256 ^ 1 = n + 256 by omega]]
  unfold itV
  clear hz
  have c3 : ¬ n < -128 := by omega
  have c6 : ¬ 127 < n := by omega
  have c4 : ¬ n < -32768 := by omega
  have c5 : ¬ 32767 < n := by omega
  have hm : (n + 4294967296) % 256 = n + 256 := by omega
  have hw : IntKind.u32.wrap n = n + 4294967296 := by rw [IntKind.wrap_u32]; omega
  go_enter Try.func17, Try.ntmps17
  go_wp2_with fail
  try go_region
  all_goals
   go_wp2_with fail
   refine bodyPost_ret (v := .agg #[.int .u8 t, .int .u8 g, .int .i64 1, .int .u32 (n + 256)]) (by simp [results, Try.results17, go_sem]) rfl ⟨rfl, by go_grown⟩
end Go.Proofs.Ytegdigfcgeoboaa
