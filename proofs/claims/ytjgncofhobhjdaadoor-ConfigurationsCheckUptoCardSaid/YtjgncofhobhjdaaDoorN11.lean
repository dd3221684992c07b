/- The example. -/
import Derived.Test.YtjgncofhobhjdaaDoorChecked
import Derived.Deep.RegionHeld3
import Derived.Deep.DrawnRows
import Derived.Deep.DeepCutAuto
import Derived.Deep.LoopGhost
import Derived.Outline
import Derived.Handy
import Derived.OwnWalk
import Derived.BigQuiet
import Derived.Shelf.Bytes.SlSmallAll
import Derived.Lib.SlBytesRow
import Derived.Laws.MakeOwn
import Derived.Test.YtjgncofhobhjdaaDoorZqK
import Derived.Test.YtjgncofhobhjdaaDoorN12
import Derived.Test.YtjgncofhobhjdaaDoorN9
import Derived.Test.YtjgncofhobhjdaaDoorZaK
set_option linter.unusedVariables false
set_option linter.unusedSimpArgs false
set_option linter.unusedSectionVars false
/- Bytes as strings; the example of the chapter, as data. No condition. -/
namespace Go.Proofs.YtjgncofhobhjdaaDoor
open Go.RowKit Go.Lib

def strB (bs : List Int) : ByteArray := ⟨(bs.map (fun n => UInt8.ofNat n.toNat)).toArray⟩
theorem bytes_of_sl {w : World} {F : Nat → Prop} {A : Option Addr} {n : Nat} {l : List Int} (h : Sl u8T w F A n l) (hn : n ≠ 0) : ∃ p o, A = some ⟨p, o, none⟩ ∧ F p ∧ Bytes w p o (strB l) := by
  obtain ⟨x, p, o, cs, hx, rfl, hp, _, _⟩ := h.at (k := 0) (by omega)
  refine ⟨p, o, rfl, hp, fun i hi => ?_⟩
  have hi' : i < l.length := by simpa [ByteArray.size, strB] using hi
  obtain ⟨p', o', cs', e, _, ⟨rfl, hok⟩, hc⟩ := h.2 i l[i] (List.getElem?_eq_getElem hi')
  injection e with e
  injection e with e1 e2 _
  subst e1 e2
  have h2 := hc 0 _ rfl
  simp only [u8T, Ty.flat, Nat.mul_one, Nat.add_zero] at h2
  rw [h2]
  unfold u8k at hok
  have e : ((strB l)[i]'hi) = UInt8.ofNat (l[i]).toNat := by simp [strB, ByteArray.getElem_eq_getElem_data]
  rw [e]
  have : ((UInt8.ofNat (l[i]).toNat).toNat : Int) = l[i] := by rw [UInt8.toNat_ofNat']; omega
  rw [this]
theorem conv_sl {w w' : World} {A : Option Addr} {n : Nat} (c : Nat) {l : List Int} (h : Sl u8T w (low w.heap.size) A n l) (hk : Kept w w') :
    (convert 34 9 (.slice A n c)).run Tryd.prog w' = .ok (.string (strB l)) w' := by
  by_cases hn : n = 0
  · subst hn
    have hl : l = [] := List.eq_nil_of_length_eq_zero h.1
    subst hl
    exact run_convert_bytes_zero w' 34 5 Tryd.underlying34 Tryd.underlying5 A c 9 Tryd.underlying9
  · obtain ⟨p, o, rfl, hp, hb⟩ := bytes_of_sl h hn
    have hs : (strB l).size = n := by have := h.1; simpa [ByteArray.size, strB] using this
    have hb' : Bytes w' p o (strB l) := fun i hi => (hk.cell (p := ⟨p, o + i, none⟩) hp).trans (hb i hi)
    have := run_convert_whole (P := Tryd.prog) w' 34 5 9 Tryd.underlying34 Tryd.underlying5 Tryd.underlying9 p o (strB l) hb' c
    rw [hs] at this
    exact this
/-- bytes are what their string tells -/
theorem strB_inj : ∀ {a b : List Int}, (∀ z ∈ a, u8k z) → (∀ z ∈ b, u8k z) → (strB a).toList = (strB b).toList → a = b := by
  intro a b ha hb h
  rw [ByteArray.toList_eq, ByteArray.toList_eq] at h
  unfold strB at h
  simp only [List.toList_toArray] at h
  induction a generalizing b with
  | nil => cases b with
    | nil => rfl
    | cons y m => simp at h
  | cons x l ih =>
    cases b with
    | nil => simp at h
    | cons y m =>
      simp only [List.map_cons, List.cons.injEq] at h
      obtain ⟨h1, h2⟩ := h
      have hx := ha x List.mem_cons_self
      have hy := hb y List.mem_cons_self
      have h3 := congrArg UInt8.toNat h1
      rw [UInt8.toNat_ofNat', UInt8.toNat_ofNat'] at h3
      unfold u8k at hx hy
      rw [ih (fun z hz => ha z (List.mem_cons_of_mem _ hz)) (fun z hz => hb z (List.mem_cons_of_mem _ hz)) h2]
      congr 1
      omega
theorem strB_eq {a b : List Int} (ha : ∀ z ∈ a, u8k z) (hb : ∀ z ∈ b, u8k z) : ((strB a).toList == (strB b).toList) = decide (a = b) := by
  by_cases h : a = b
  · subst h; simp
  · rw [decide_eq_false h]
    simpa using fun e => h (strB_inj ha hb e)
/-! the example -/
def exA : Alt := ⟨⟨0, 0, 1, 3, 0, 0, 0⟩, [9, 33, 1, 1, 0, 1, 34, 63, 0], [⟨1, true, 3, 8, 10⟩]⟩
def exC : Cfg := ⟨⟨34, 1, 1, 0, false, false, 50⟩, [[exA]]⟩
def exL : List Int := [9, 2, 34, 0, 1, 1, 0, 128, 50, 9, 4, 0, 0, 1, 3, 0, 0, 0, 9, 33, 1, 1, 0, 1, 34, 63, 0, 7, 5, 129, 3, 8, 0, 10]
theorem ex_check : checkS exC = 0 := by decide +kernel
theorem ex_bytes : bytesS exC = exL := by decide +kernel
theorem ex_size : sizeS exC = 34 := by decide +kernel
theorem ex_ok : exC.ok := by
  refine ⟨⟨⟨by decide, by decide⟩, ⟨by decide, by decide⟩, ⟨by decide, by decide⟩, ⟨by decide, by decide⟩, ⟨by decide, by decide⟩⟩, fun l hl a ha => ?_⟩
  obtain rfl : l = [exA] := by simpa [exC] using hl
  obtain rfl : a = exA := by simpa using ha
  refine ⟨⟨⟨by decide, by decide⟩, ⟨by decide, by decide⟩, ⟨by decide, by decide⟩, ⟨by decide, by decide⟩, ⟨by decide, by decide⟩, ⟨by decide, by decide⟩, ⟨by decide, by decide⟩⟩, ?_, fun e he => ?_⟩
  · unfold exA u8k; decide
  · obtain rfl : e = ⟨1, true, 3, 8, 10⟩ := by simpa [exA] using he
    exact ⟨⟨by decide, by decide⟩, ⟨by decide, by decide⟩, ⟨by decide, by decide⟩, ⟨by decide, by decide⟩⟩
theorem exL_u8 : ∀ z ∈ exL, u8k z := by unfold exL u8k; decide
theorem ex_parse : parseC exL = some exC := by rw [← ex_bytes]; exact parse_bytes ex_check ex_ok
theorem ex_parseE : parseE exL = 0 := by unfold parseE; rw [if_neg (by decide), ex_parse]; rfl
theorem ex_same : sameS exC exC = true := (sameS_iff _ _).2 rfl
def exT : List UInt8 := "configuration 1 interfaces 1 bytes 34 current 100\ninterface 0 0 class 3 0 0\nextra 33 9\nendpoint 129 interrupt 8 10\n".toUTF8.data.toList
theorem it1 {n : Int} {k : Nat} (h : n = k) (hk : k < 10) : Lib.itoa n = [UInt8.ofNat (48 + k)] := by
  subst h
  rw [Lib.itoa_nonneg, Lib.decDigits_one hk]
theorem it2 {n : Int} {k : Nat} (h : n = k) (h1 : ¬ k < 10) (hk : k < 100) : Lib.itoa n = [UInt8.ofNat (48 + k / 10), UInt8.ofNat (48 + k % 10)] := by
  subst h
  rw [Lib.itoa_nonneg, Lib.decDigits_two h1 hk]
theorem it3 {n : Int} {k : Nat} (h : n = k) (h1 : ¬ k < 100) (hk : k < 1000) : Lib.itoa n = [UInt8.ofNat (48 + k / 10 / 10), UInt8.ofNat (48 + k / 10 % 10), UInt8.ofNat (48 + k % 10)] := by
  subst h
  rw [Lib.itoa_nonneg, Lib.decDigits, dif_neg (by omega), Lib.decDigits_two (by omega) (by omega)]
  rfl
theorem ex_text : textS exC = exT := by
  unfold textS
  rw [if_pos ex_check]
  have hdv : divide [9, 33, 1, 1, 0, 1, 34, 63, 0] = some [[9, 33, 1, 1, 0, 1, 34, 63, 0]] := by decide +kernel
  have i0 := it1 (n := 0) (k := 0) rfl (by decide)
  have i1 := it1 (n := 1) (k := 1) rfl (by decide)
  have i3 := it1 (n := 3) (k := 3) rfl (by decide)
  have i8 := it1 (n := 8) (k := 8) rfl (by decide)
  have i9 := it1 (n := 9) (k := 9) rfl (by decide)
  have i10 := it2 (n := 10) (k := 10) rfl (by decide) (by decide)
  have i33 := it2 (n := 33) (k := 33) rfl (by decide) (by decide)
  have i34 := it2 (n := 34) (k := 34) rfl (by decide) (by decide)
  have i100 := it3 (n := 100) (k := 100) rfl (by decide) (by decide)
  have i129 := it3 (n := 129) (k := 129) rfl (by decide) (by decide)
  have e1 : cfgW exC.d = [sConfiguration, Lib.itoa 1, sInterfaces, Lib.itoa 1, sBytes, Lib.itoa 34, sCurrent, Lib.itoa 100, [], [], []] := rfl
  have e2 : ifW exA.d = [sInterface, Lib.itoa 0, Lib.itoa 0, sClass, Lib.itoa 3, Lib.itoa 0, Lib.itoa 0, []] := rfl
  have e3 : exW [9, 33, 1, 1, 0, 1, 34, 63, 0] = [sExtra, Lib.itoa 33, Lib.itoa 9] := rfl
  have e4 : epW ⟨1, true, 3, 8, 10⟩ = [sEndpoint, Lib.itoa 129, sInt, Lib.itoa 8, Lib.itoa 10] := rfl
  have e5 : textL exC = lineW (cfgW exC.d) ++ (lineW (ifW exA.d) ++ exText ((divide [9, 33, 1, 1, 0, 1, 34, 63, 0]).getD []) ++ (lineW (epW ⟨1, true, 3, 8, 10⟩) ++ []) ++ [] ++ []) := rfl
  have e6 : exText [[9, 33, 1, 1, 0, 1, 34, 63, 0]] = lineW (exW [9, 33, 1, 1, 0, 1, 34, 63, 0]) ++ [] := rfl
  rw [e5, hdv, Option.getD_some, e6, e1, e2, e3, e4, i0, i1, i3, i8, i9, i10, i33, i34, i100, i129]
  decide +kernel
end Go.Proofs.YtjgncofhobhjdaaDoor
/- lives: the example of the chapter. The library's table of powers is as the program lays it. Printed by gen_yb.py. -/
namespace Go.Proofs.YtjgncofhobhjdaaDoor
open Go.RowKit Go.Lib
attribute [local go_sem ↓] Go.wp_at_zero Go.wp_at_succ

theorem range_heap {w : World} {g : Nat} {cs : Array Value} {t : TypeId} (h : w.heap[g]? = some (.cells cs t (0, 0))) : w.rangeAt g 0 cs.toList := fun j v hv => by
  rw [Nat.zero_add]
  exact cell_heap h (by simpa using hv)
set_option maxRecDepth 100000 in
set_option maxHeartbeats 16000000 in
theorem lives_any (w : World) (hT : Tabs w) : Calls Tryd.prog 13 #[] w fun e w' => e = .returned (.bool true) ∧ Kept w w' := by
  go_enter Tryd.func13, Tryd.ntmps13
  go_upto_region 3 with (fail)
  refine wp_at (fun W => ∃ B E A I C, W.heap[B]? = some (.cells #[.int .u8 9, .int .u8 33, .int .u8 1, .int .u8 1, .int .u8 0, .int .u8 1, .int .u8 34, .int .u8 63, .int .u8 0] 5 (0, 0)) ∧ W.heap[E]? = some (.cells #[.int .u8 1, .bool true, .int .u8 3, .int .u16 8, .int .u8 10] 59 (0, 0)) ∧ W.heap[A]? = some (.cells #[.int .u8 0, .int .u8 0, .int .u8 1, .int .u8 3, .int .u8 0, .int .u8 0, .int .u8 0, .slice (some ⟨B, 0, none⟩) 9 9, .slice (some ⟨E, 0, none⟩) 1 1] 56 (0, 0)) ∧ W.heap[I]? = some (.cells #[.slice (some ⟨A, 0, none⟩) 1 1] 50 (0, 0)) ∧ W.heap[C]? = some (.cells #[.int .u16 34, .int .u8 1, .int .u8 1, .int .u8 0, .bool false, .bool false, .int .u8 50, .slice (some ⟨I, 0, none⟩) 1 1] 32 (0, 0)) ∧ Kept w W ∧ C = w.heap.size + 1 + 1 + 1 + 1 + 1) ⟨w.heap.size, w.heap.size + 1, w.heap.size + 1 + 1 + 1, w.heap.size + 1 + 1 + 1 + 1, w.heap.size + 1 + 1 + 1 + 1 + 1, ?_, ?_, ?_, ?_, ?_, by go_grown, rfl⟩ (fun W hW => ?_)
  · exact heap_past (heap_past (heap_past (heap_past (heap_past (heap_at _ rfl)))))
  · exact heap_past (heap_past (heap_past (heap_past (heap_at _ (by simp)))))
  · exact heap_past (heap_past (heap_at _ (by simp)))
  · exact heap_past (heap_at _ (by simp))
  · exact heap_at _ (by simp)
  obtain ⟨B, E, A, I, C, hB, hE, hA, hI, hCf, hkW, hCd⟩ := hW
  rw [← hCd]
  have hC0 : CfgIs W (low W.heap.size) exC (some ⟨I, 0, none⟩) 1 := by
    refine ⟨ex_ok.1, Nat.le_refl _, by unfold maxLen; decide, ?_⟩
    refine Sl.one (off := 0) (cs := [.slice (some ⟨A, 0, none⟩) 1 1]) (heap_lt hI) ⟨some ⟨A, 0, none⟩, 1, rfl, Nat.le_refl _, by unfold maxLen; decide, ?_⟩ (range_heap hI)
    refine Sl.one (off := 0) (heap_lt hA) ⟨some ⟨B, 0, none⟩, 9, some ⟨E, 0, none⟩, 1, rfl, (ex_ok.2 [exA] (by simp [exC]) exA (by simp)).1, Nat.le_refl _, by unfold maxLen; decide, Nat.le_refl _, by unfold maxLen; decide, ?_, ?_⟩ (range_heap hA)
    · exact sl_lit8 (l := [9, 33, 1, 1, 0, 1, 34, 63, 0]) hB (heap_lt hB) (by unfold u8k; decide)
    · exact Sl.one (off := 0) (heap_lt hE) ⟨rfl, (ex_ok.2 [exA] (by simp [exC]) exA (by simp)).2.2 _ (by simp [exA])⟩ (range_heap hE)
  have henc := encode_any exC _ 1 W hC0 (by rw [ex_size]; decide)
  have hee : encB exC = exL := by unfold encB; rw [if_pos ex_check, ex_bytes]
  rw [hee, ex_check] at henc
  have c0 := cell_heap hCf (o := 0) rfl
  have c1 := cell_heap hCf (o := 1) rfl
  have c2 := cell_heap hCf (o := 2) rfl
  have c3 := cell_heap hCf (o := 3) rfl
  have c4 := cell_heap hCf (o := 4) rfl
  have c5 := cell_heap hCf (o := 5) rfl
  have c6 := cell_heap hCf (o := 6) rfl
  have c7 := cell_heap hCf (o := 7) rfl
  have lC := heap_lt hCf
  have HC0 := hide hC0
  have HkW := hide hkW
  have HCf := hide hCf
  have HTW := hide (hT.kept hkW)
  clear hC0 hkW hCf hB hE hA hI hCd hee
  change Calls Tryd.prog 15 #[.agg #[.int .u16 34, .int .u8 1, .int .u8 1, .int .u8 0, .bool false, .bool false, .int .u8 50, .slice (some ⟨I, 0, none⟩) 1 1]] W _ at henc
  go_upto_region 5 with (go_at_call 15; refine henc.mono ?_; rintro e w1 ⟨⟨A1, n1, rfl, hs1⟩, hk1⟩)
  refine wp_at (fun X => X.heap[w1.heap.size]? = some (.cells #[.int .u8 9, .int .u8 2, .int .u8 34, .int .u8 0, .int .u8 1, .int .u8 1, .int .u8 0, .int .u8 128, .int .u8 50, .int .u8 9, .int .u8 4, .int .u8 0, .int .u8 0, .int .u8 1, .int .u8 3, .int .u8 0, .int .u8 0, .int .u8 0, .int .u8 9, .int .u8 33, .int .u8 1, .int .u8 1, .int .u8 0, .int .u8 1, .int .u8 34, .int .u8 63, .int .u8 0, .int .u8 7, .int .u8 5, .int .u8 129, .int .u8 3, .int .u8 8, .int .u8 0, .int .u8 10] 5 (0, 0)) ∧ Kept w1 X) ⟨heap_at _ rfl, by go_grown⟩ (fun X hX => ?_)
  obtain ⟨hL, hkX⟩ := hX
  have hn1 : n1 = 34 := hs1.1.symm
  subst hn1
  have hsL : Sl u8T X (low X.heap.size) (some ⟨w1.heap.size, 0, none⟩) 34 exL := sl_lit8 (l := exL) hL (heap_lt hL) exL_u8
  have hs1X : Sl u8T X (low X.heap.size) A1 34 exL := (hs1.keep (fun b hb => hb.2) (fun _ _ _ => rfl) : Sl u8T w1 (low w1.heap.size) A1 34 exL).kept hkX
  have hpa := parse_any _ 34 34 exL X (Nat.le_refl _) (by unfold maxLen; decide) hsL
  unfold ParsePost at hpa
  rw [ex_parse] at hpa
  have hpa : Calls Tryd.prog 16 #[.slice (some ⟨w1.heap.size, 0, none⟩) 34 34] X fun e w' => (∃ A', e = .returned (.tuple #[.agg #[.int .u16 34, .int .u8 1, .int .u8 1, .int .u8 0, .bool false, .bool false, .int .u8 50, .slice A' 1 1], .int .i64 0]) ∧ CfgIs w' (fun b => X.heap.size ≤ b ∧ b < w'.heap.size) exC A' 1) ∧ Kept X w' := hpa
  obtain ⟨L1, hL1⟩ : ∃ L1, w1.heap.size = L1 := ⟨_, rfl⟩
  rw [hL1] at hsL hpa
  simp only [hL1]
  have HkX := hide (hk1.trans' hkX)
  have HsL := hide hsL
  have Hs1 := hide hs1X
  clear hsL hs1X hs1 hk1 hkX hL henc hL1
  go_upto_region 6 with (go_at_call 16; refine hpa.mono ?_; rintro e w2 ⟨⟨A2, rfl, hD⟩, hk2⟩)
  refine wp_at (fun Y => ∃ G, Y.heap[G]? = some (.cells #[.int .u16 34, .int .u8 1, .int .u8 1, .int .u8 0, .bool false, .bool false, .int .u8 50, .slice A2 1 1] 32 (0, 0)) ∧ G = w2.heap.size ∧ Kept w2 Y) ⟨_, heap_at _ rfl, rfl, by go_grown⟩ (fun Y hY => ?_)
  obtain ⟨G, hG, hGd, hkY⟩ := hY
  rw [← hGd]
  have hkXY : Kept X Y := hk2.trans' hkY
  have hkWY : Kept W Y := HkX.out.trans' hkXY
  have hDY : CfgIs Y (low Y.heap.size) exC A2 1 := (hD.keep (fun b hb => hb.2) (fun _ _ _ => rfl) : CfgIs w2 (low w2.heap.size) exC A2 1).kept hkY
  have hCY := HC0.out.kept hkWY
  have hv1 := conv_sl 34 Hs1.out hkXY
  have hv2 := conv_sl 34 HsL.out hkXY
  have hsm : Calls Tryd.prog 18 #[.agg #[.int .u16 34, .int .u8 1, .int .u8 1, .int .u8 0, .bool false, .bool false, .int .u8 50, .slice A2 1 1], .agg #[.int .u16 34, .int .u8 1, .int .u8 1, .int .u8 0, .bool false, .bool false, .int .u8 50, .slice (some ⟨I, 0, none⟩) 1 1]] Y fun e w' => e = .returned (.bool true) ∧ Kept Y w' := by
    have h := same_any exC exC A2 (some ⟨I, 0, none⟩) 1 1 Y hDY hCY
    rw [ex_same] at h
    exact h
  have htx : ∀ w', Kept Y w' → Calls Tryd.prog 21 #[.agg #[.int .u16 34, .int .u8 1, .int .u8 1, .int .u8 0, .bool false, .bool false, .int .u8 50, .slice (some ⟨I, 0, none⟩) 1 1]] w' fun e w2 => e = .returned (.string (B8 (textS exC))) ∧ Kept w' w2 := fun w' hk => text_any exC (some ⟨I, 0, none⟩) 1 w' (hCY.kept hk) (by rw [ex_size]; decide) (HTW.out.kept (hkWY.trans' hk))
  have hCfY := heap_kept hkWY HCf.out
  have d0 := cell_heap hCfY (o := 0) rfl
  have d1 := cell_heap hCfY (o := 1) rfl
  have d2 := cell_heap hCfY (o := 2) rfl
  have d3 := cell_heap hCfY (o := 3) rfl
  have d4 := cell_heap hCfY (o := 4) rfl
  have d5 := cell_heap hCfY (o := 5) rfl
  have d6 := cell_heap hCfY (o := 6) rfl
  have d7 := cell_heap hCfY (o := 7) rfl
  have g0 := cell_heap hG (o := 0) rfl
  have g1 := cell_heap hG (o := 1) rfl
  have g2 := cell_heap hG (o := 2) rfl
  have g3 := cell_heap hG (o := 3) rfl
  have g4 := cell_heap hG (o := 4) rfl
  have g5 := cell_heap hG (o := 5) rfl
  have g6 := cell_heap hG (o := 6) rfl
  have g7 := cell_heap hG (o := 7) rfl
  have lCY := heap_lt hCfY
  have lG := heap_lt hG
  have HkWY := hide hkWY
  have HCfY := hide hCfY
  obtain ⟨S0, hS0⟩ : ∃ S0, B8 (textS exC) = S0 := ⟨_, rfl⟩
  obtain ⟨S1, hS1⟩ : ∃ S1, strB exL = S1 := ⟨_, rfl⟩
  rw [hS0] at htx
  rw [hS1] at hv1 hv2
  have HS0 := hide hS0
  clear hkXY hkWY hDY hCY hD hk2 hkY hG hGd hCfY hpa hS0 hS1
  go_wp2_with (first
    | (go_at_call 18; refine hsm.mono ?_; rintro e w3 ⟨rfl, hk3⟩; have hCf3 := heap_kept hk3 HCfY.out; have f0 := cell_heap hCf3 (o := 0) rfl; have f1 := cell_heap hCf3 (o := 1) rfl; have f2 := cell_heap hCf3 (o := 2) rfl; have f3 := cell_heap hCf3 (o := 3) rfl; have f4 := cell_heap hCf3 (o := 4) rfl; have f5 := cell_heap hCf3 (o := 5) rfl; have f6 := cell_heap hCf3 (o := 6) rfl; have f7 := cell_heap hCf3 (o := 7) rfl; have lC3 := heap_lt hCf3)
    | (go_at_call 21; refine (htx _ hk3).mono ?_; rintro e w4 ⟨rfl, hk4⟩))
  go_ret
  refine ⟨congrArg (fun b => Ending.returned (.bool b)) (?_ : (S0.toList == _) = true), (HkWY.out.trans' hk3).trans' hk4 |> (HkW.out.trans' ·)⟩
  rw [← HS0.out, ByteArray.toList_eq, B8_list, ex_text]
  decide +kernel
end Go.Proofs.YtjgncofhobhjdaaDoor
