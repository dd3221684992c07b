/- The law Check: a setting too many. Printed by gen_ve.py. -/
import Derived.Test.YtjgncofhobhjdaaDoorChecked
import Derived.Deep.RegionHeld3
import Derived.Deep.DrawnRows
import Derived.Deep.DeepCutAuto
import Derived.Deep.LoopGhost
import Derived.Outline
import Derived.Handy
import Derived.OwnWalk
import Derived.BigQuiet
import Derived.Test.YtjgncofhobhjdaaDoorVnK
set_option linter.unusedVariables false
set_option linter.unusedSimpArgs false
set_option linter.unusedSectionVars false
namespace Go.Proofs.YtjgncofhobhjdaaDoor
open Go.RowKit
attribute [local go_sem ↓] Go.wp_at_zero Go.wp_at_succ

set_option maxRecDepth 1000000 in
set_option maxHeartbeats 16000000 in
theorem chk_14 {u0 u1 u3 u4 u5 u6 u12 u13 u14 u15 u16 u17 u18 u19 u20 u21 u22 u23 u24 u25 u26 u27 u28 u29 u30 u31 u32 u33 u34 u35 u36 u37 u38 u39 u40 u41 u42 u43 u44 u45 u46 u47 u48 u49 u50 u51 u52 u53 u54 u55 u56 u57 u58 u59 u60 u61 u62 u63 u64 u65 u66 u67 u68 u69 u70 u71 u72 u73 u74 u75 u76 u77 u78 u79 u80 u81 u82 u83 u84 u85 u86 u87 u88 u89 u90 u91 u92 u93 u94 u95 u96 u97 u98 u99 u100 u101 u102 u103 u104 u105 u106 u107 u108 u109 u110 u111 u112 u113 u114 u115 u116 u117 u118 u119 u120 u121 u122 u123 u124 u125 u126 u127 u128 u129 u130 u131 u132 u133 u134 u135 u136 u137 u138 u139 u140 u141 u142 u143 u144 u145 u146 u147 u148 u149 u150 u151 u152 u153 u154 u155 u156 u157 u158 u159 u160 u161 u162 u163 u164 u165 u166 u167 u168 u169 u170 u171 u172 u173 u174 u175 u176 u177 u178 u179 u180 u181 u182 u183 u184 u185 u186 u187 u188 u189 u190 u191 u192 u193 u194 u195 u196 u197 u198 u199 u200 u201 u202 u203 u204 u205 u206 u207 u208 u209 u210 u211 u212 u213 u214 u215 u216 u217 u218 u219 u220 u221 u222 u223 u224 u225 u226 u227 u228 u229 u230 u231 u232 u233 u234 u235 u236 u237 u238 u239 u240 u241 u242 u243 u244 u245 u246 u247 u248 u249 u250 u251 u252 u253 u254 u255 u256 u257 u258 u259 u260 u261 u262 u263 u264 u265 u266 u267 u268 u269 u270 u271 u272 u273 u274 u275 u276 u277 u278 u279 u280 u281 u282 u283 u284 u285 u286 u287 u288 u289 u290 u291 u292 u293 u294 u295 u296 u297 u298 u299 u300 u301 u302 u303 u304 u305 u306 u307 u308 u309 u310 u311 u312 u313 u314 u315 u316 u317 u318 u319 u320 u321 u322 u323 u324 u325 u326 u327 u328 u329 u330 u331 u332 u333 u334 u335 u336 u337 u338 u339 u340 u341 u342 u343 u344 u345 u346 u347 u348 u349 u350 u351 u352 u353 u354 u355 u356 u357 u358 u359 u360 u361 u362 u363 u364 u365 u366 u367 u368 u369 u370 u371 u372 u373 u374 u375 u376 : Value} {w Y : World} {S BB gI g n1 cI m cA i j : Nat} {D : CfgD} {I : List (List Alt)} {l : List Alt} {L : List LF} {y : LF} {p : LA} {what : Int} (h : CK w Y S BB gI g n1 cI m cA i j D I l L y p) (hw : u8k what) (h16 : what % 16 = 14) (hT : Tabs w)
    (K K2 : Act → World → Prop) (hK : ∀ a w', Code.wp Tryd.prog (restC code8) (Exit.then K2 (bodyPost Tryd.prog Tryd.f6 fun e w' => e = .returned (.bool true) ∧ Kept w w')) a w' → K a w') (hK2 : ∀ a w', Code.wp Tryd.prog code67 (bodyPost Tryd.prog Tryd.f6 fun e w' => e = .returned (.bool true) ∧ Kept w w') a w' → K2 a w') :
    Code.wp Tryd.prog (headC code8) (Exit.then K (Exit.then K2 (bodyPost Tryd.prog Tryd.f6 fun e w' => e = .returned (.bool true) ∧ Kept w w'))) ⟨#[u0, u1, .int .u8 what, u3, u4, u5, u6, .pointer (some ⟨BB, 0, none⟩), .int .i64 (i : Int), .int .i64 (j : Int), .pointer (some ⟨g, j * 9, none⟩), .int .i64 1, u12, u13, u14, u15, u16, u17, u18, u19, u20, u21, u22, u23, u24, u25, u26, u27, u28, u29, u30, u31, u32, u33, u34, u35, u36, u37, u38, u39, u40, u41, u42, u43, u44, u45, u46, u47, u48, u49, u50, u51, u52, u53, u54, u55, u56, u57, u58, u59, u60, u61, u62, u63, u64, u65, u66, u67, u68, u69, u70, u71, u72, u73, u74, u75, u76, u77, u78, u79, u80, u81, u82, u83, u84, u85, u86, u87, u88, u89, u90, u91, u92, u93, u94, u95, u96, u97, u98, u99, u100, u101, u102, u103, u104, u105, u106, u107, u108, u109, u110, u111, u112, u113, u114, u115, u116, u117, u118, u119, u120, u121, u122, u123, u124, u125, u126, u127, u128, u129, u130, u131, u132, u133, u134, u135, u136, u137, u138, u139, u140, u141, u142, u143, u144, u145, u146, u147, u148, u149, u150, u151, u152, u153, u154, u155, u156, u157, u158, u159, u160, u161, u162, u163, u164, u165, u166, u167, u168, u169, u170, u171, u172, u173, u174, u175, u176, u177, u178, u179, u180, u181, u182, u183, u184, u185, u186, u187, u188, u189, u190, u191, u192, u193, u194, u195, u196, u197, u198, u199, u200, u201, u202, u203, u204, u205, u206, u207, u208, u209, u210, u211, u212, u213, u214, u215, u216, u217, u218, u219, u220, u221, u222, u223, u224, u225, u226, u227, u228, u229, u230, u231, u232, u233, u234, u235, u236, u237, u238, u239, u240, u241, u242, u243, u244, u245, u246, u247, u248, u249, u250, u251, u252, u253, u254, u255, u256, u257, u258, u259, u260, u261, u262, u263, u264, u265, u266, u267, u268, u269, u270, u271, u272, u273, u274, u275, u276, u277, u278, u279, u280, u281, u282, u283, u284, u285, u286, u287, u288, u289, u290, u291, u292, u293, u294, u295, u296, u297, u298, u299, u300, u301, u302, u303, u304, u305, u306, u307, u308, u309, u310, u311, u312, u313, u314, u315, u316, u317, u318, u319, u320, u321, u322, u323, u324, u325, u326, u327, u328, u329, u330, u331, u332, u333, u334, u335, u336, u337, u338, u339, u340, u341, u342, u343, u344, u345, u346, u347, u348, u349, u350, u351, u352, u353, u354, u355, u356, u357, u358, u359, u360, u361, u362, u363, u364, u365, u366, u367, u368, u369, u370, u371, u372, u373, u374, u375, u376], []⟩ Y := by
  obtain ⟨hw0, hw1⟩ := hw
  have hm16 : what.tmod 16 = 14 := by rw [Int.tmod_eq_emod_of_nonneg hw0]; exact h16
  obtain ⟨q1, q2, q3, q4, q5, q6, q7, q8⟩ := h.nums
  have qs := h.size
  have qd := h.ok.1
  have hB : Y.heap[BB]? = some (.cells #[.int .u16 D.total, .int .u8 D.ifs, .int .u8 D.number, .int .u8 D.text, .bool D.self, .bool D.wake, .int .u8 D.power, .slice (some ⟨gI, 0, none⟩) n1 cI] 32 (0, 0)) := h.mid.box
  obtain ⟨cur, hA⟩ := h.heapA
  have lB := heap_lt hB
  have lg := heap_lt hA
  have hk := h.mid.kept
  have hkS := hk.size
  obtain ⟨i8, hi8, h80, h81, h82⟩ := info_parts info5
  obtain ⟨iE, hiE, hE0, hE1, hE2⟩ := info_parts infoEp
  obtain ⟨iI, hiI, hI0, hI1, hI2⟩ := info_parts infoIf
  obtain ⟨iA, hiA, hA0, hA1, hA2⟩ := info_parts infoAlt
  have Hm16 := hide (show m ≤ 16 by have h5 := (h.chk.each l (List.mem_of_getElem? h.hl)).1; rw [h.l, List.length_map, h.len] at h5; exact h5)
  have H := hide h
  have HT := hide hT
  have HB := hide hB
  have HA := hide hA
  have Hq := hide (⟨q1, q2, q3, q4, q5, q6, q7, q8, qs, qd⟩ : D.total = (sizeS ⟨D, I⟩ : Int) ∧ D.ifs = (n1 : Int) ∧ p.a.d.num = (i : Int) ∧ p.a.d.alt = (j : Int) ∧ p.a.d.eps = (p.a.eps.length : Int) ∧ i < 6 ∧ j < 16 ∧ p.a.eps.length ≤ 30 ∧ sizeS ⟨D, I⟩ ≤ 3129 ∧ D.ok)
  clear h hT hB hA h16 q1 q2 q3 q4 q5 q6 q7 q8 qs qd hk hkS
  conv => arg 2; whnf
  conv at hK => enter [a, w', 1, 2]; whnf
  conv at hK2 => enter [a, w', 1, 2]; whnf
  go_wp2_with fail
  go_loopg [15] (17 - m) (fun g' s15 wr => ∃ (k : Nat) (t : Int) (L' : List LF) (y' : LF), k + g' = 17 ∧ MidC w wr S BB (.slice (some ⟨gI, 0, none⟩) n1 cI) { D with total := t } L' ∧ u16k t ∧ L'[i]? = some y' ∧ y'.alts.length = k ∧ L'.length = n1 ∧ sizeS ⟨D, plainL L'⟩ ≤ 3129 + 9 * k)
  case atStart => exact ⟨m, D.total, L, y, by have := Hm16.out; omega, H.out.mid, H.out.ok.1.1, H.out.y, H.out.len, H.out.many.2.2, by rw [H.out.pl]; have := H.out.size; omega⟩
  case round =>
    obtain ⟨k, t, L', y', hk, hmid, ht, hy', hyl, hL', hsz⟩ := hrel
    have hown := (hmid.lis.rows y' (List.mem_of_getElem? hy')).1
    have hoI := hmid.lis.own
    rw [hL'] at hoI
    rw [hyl] at hown
    obtain ⟨Ay, cy, hvy, hy1, hy2⟩ := hown.isSlice
    have hcI := own_cells (j := i) (cs := [y'.v]) hoI hy' (fun F c hr => hr.1) 0 _ rfl
    have hcI' : wr.cell? ⟨gI, i, none⟩ = some (.slice Ay k cy) := by rw [← hvy]; simpa [lfT, Ty.flat] using hcI
    have b7 : wr.cell? ⟨BB, 7, none⟩ = some (.slice (some ⟨gI, 0, none⟩) n1 cI) := cell_heap hmid.box (o := 7) rfl
    have lBr := heap_lt hmid.box
    obtain ⟨_, curI, _, hhI⟩ := ownBlock_heap hoI rfl
    have lI : gI < wr.heap.size := heap_lt hhI
    have fI := frozen_heap hhI (o := i)
    have hin : (i : Int) < (n1 : Int) := by have := (List.getElem?_eq_some_iff.1 hy').1; omega
    have hi0 : (0 : Int) ≤ (i : Int) := by omega
    have Hmid := hide hmid
    have Ht := hide ht
    have Hy' := hide hy'
    have Hyl := hide hyl
    have HL' := hide hL'
    have Hsz := hide hsz
    have Hvy := hide hvy
    have Hk := hide hk
    have HhI := hide hhI
    rw [hvy] at hown
    have Hown := hide hown
    clear hmid ht hy' hyl hL' hsz hvy hk hown hoI hcI hhI
    by_cases hlt : k < 17
    case pos =>
      have hki : (k : Int) < 17 := by omega
      have hwi : IntKind.u8.wrap (i : Int) = (i : Int) := by obtain ⟨q1, q2, q3, q4, q5, q6, q7, q8, qs, qd⟩ := Hq.out; exact wrap8 (by omega) (by omega)
      have hwk : IntKind.u8.wrap (k : Int) = (k : Int) := wrap8 (by omega) (by omega)
      have hSr : S ≤ wr.heap.size := by have := Hmid.out.low; omega
      go_upto_region 63 with fail
      refine wp_at (fun Z => Z.heap[wr.heap.size]? = some (.cells #[.int .u8 0, .int .u8 0, .int .u8 0, .int .u8 0, .int .u8 0, .int .u8 0, .int .u8 0, .slice none 0 0, .slice none 0 0] 56 (0, 0)) ∧ Kept wr Z) ⟨heap_at _ rfl, by go_grown⟩ (fun V hV => ?_)
      obtain ⟨hVb, hVk⟩ := hV
      have lV := heap_lt hVb
      have b7V : V.cell? ⟨BB, 7, none⟩ = some (.slice (some ⟨gI, 0, none⟩) n1 cI) := (hVk.cell (p := ⟨BB, 7, none⟩) lBr).trans b7
      have cIV : V.cell? ⟨gI, i, none⟩ = some (.slice Ay k cy) := (hVk.cell (p := ⟨gI, i, none⟩) lI).trans hcI'
      have lBV : BB < V.heap.size := heap_lt (heap_kept hVk Hmid.out.box)
      have lIV : gI < V.heap.size := heap_lt (heap_kept hVk HhI.out)
      have hBn : ¬ BB = wr.heap.size := by omega
      have hIn : ¬ gI = wr.heap.size := by omega
      have HVk := hide hVk
      clear hVk
      refine r63 hVb b7V cIV lBr lI hin hi0 hwi hwk _ ?_
      intro s314 s315 s316 s317 s318 s319 s320 s321 s322 s323 s324 s325 s326 s327 U hUb hUk2
      have hUk : Kept wr U := HVk.out.trans hUk2
      have hpok : (⟨(i : Int), (k : Int), 0, 0, 0, 0, 0⟩ : IfD).ok := by
        obtain ⟨q1, q2, q3, q4, q5, q6, q7, q8, qs, qd⟩ := Hq.out
        refine ⟨?_, ?_, ?_, ?_, ?_, ?_, ?_⟩ <;> unfold u8k <;> simp only <;> omega
      have hoI := Hmid.out.lis.own
      rw [HL'.out] at hoI
      have hne : (Value.slice Ay k cy).ownBlock ≠ some wr.heap.size := fun e => by have := (Hown.out.lt e).2; omega
      have HUk := hide hUk
      clear hVb b7V cIV lBV lIV hBn hIn lV
      go_upto_region 64 with fail
      refine r64 hUb (heap_kept hUk Hmid.out.box) (hoI.kept hUk) ((hUk.cell (p := ⟨gI, i, none⟩) lI).trans hcI') (Hown.out.kept hUk) hne hpok (Nat.le_trans hSr hUk.size) hin hi0 hlt _ ?_
      intro s328 s329 s330 s331 s332 s333 s334 s335 s336 s337 s338 s339 s340 s341 g9 cap9 w9 hown9 hg9 hat9
      clear hUb hUk hUk2 hpok hoI hne
      have hm1 := (Hmid.out.keep (show Kept wr (U.drew.alloc (.cells #[.int .u8 (i : Int), .int .u8 (k : Int), .int .u8 0, .int .u8 0, .int .u8 0, .int .u8 0, .int .u8 0, .slice none 0 0, .slice none 0 0] 56)) from HUk.out.drew.alloc (by exact HUk.out.size) _)).more (p := (⟨⟨⟨(i : Int), (k : Int), 0, 0, 0, 0, 0⟩, [], []⟩, .slice none 0 0, .slice none 0 0⟩ : LA)) Hy'.out (by rfl) ⟨Own.nil _ _ _ _, Own.nil _ _ _ _⟩ rfl rfl (v' := .slice (some ⟨g9, 0, none⟩) (k + 1) cap9) (by rw [Hvy.out]; exact hg9) (by rw [List.length_append, Hyl.out]; exact hown9) (by rw [Hvy.out]; exact hat9)
      have HM := hide hm1
      clear hm1 hown9 hg9 hat9
      go_upto_region 65 with fail
      refine wp_at (fun Z => MidC w Z S BB (.slice (some ⟨gI, 0, none⟩) n1 cI) { D with total := t } (L'.set i ⟨y'.alts ++ [(⟨⟨⟨(i : Int), (k : Int), 0, 0, 0, 0, 0⟩, [], []⟩, .slice none 0 0, .slice none 0 0⟩ : LA)], .slice (some ⟨g9, 0, none⟩) (k + 1) cap9⟩)) (by exact HM.out) (fun Z hZ => ?_)
      have b0 : Z.cell? ⟨BB, 0, none⟩ = some (.int .u16 t) := cell_heap hZ.box (o := 0) rfl
      have f0 := frozen_heap hZ.box (o := 0)
      have lBZ := heap_lt hZ.box
      obtain ⟨t2, ht2⟩ : ∃ t2, IntKind.u16.wrap (t + 9) = t2 := ⟨_, rfl⟩
      have ht28 : u16k t2 := by
        rw [← ht2]
        have : IntKind.u16.wrap (t + 9) = (t + 9) % 65536 := by simp [IntKind.wrap, IntKind.signed, IntKind.bits]
        unfold u16k
        omega
      have HZ2 := hide (hZ.setBox (D' := { D with total := t2 }) (o := 0) (u := .int .u16 t2) (by decide) rfl)
      have Ht2 := hide ht28
      clear hZ HM ht28
      go_wp2_with fail
      go_roundg (gk - 1)
      case measure => have := Hk.out; omega
      case rel =>
        refine ⟨k + 1, t2, _, ⟨y'.alts ++ [(⟨⟨⟨(i : Int), (k : Int), 0, 0, 0, 0, 0⟩, [], []⟩, .slice none 0 0, .slice none 0 0⟩ : LA)], .slice (some ⟨g9, 0, none⟩) (k + 1) cap9⟩, by have := Hk.out; omega, HZ2.out, Ht2.out, by rw [List.getElem?_set, if_pos rfl, if_pos (List.getElem?_eq_some_iff.1 Hy'.out).1], by rw [List.length_append, Hyl.out]; rfl, by rw [List.length_set]; exact HL'.out, ?_⟩
        have e5 : plainL (L'.set i ⟨y'.alts ++ [(⟨⟨⟨(i : Int), (k : Int), 0, 0, 0, 0, 0⟩, [], []⟩, .slice none 0 0, .slice none 0 0⟩ : LA)], .slice (some ⟨g9, 0, none⟩) (k + 1) cap9⟩) = (plainL L').set i (y'.alts.map LA.a ++ [(⟨⟨⟨(i : Int), (k : Int), 0, 0, 0, 0, 0⟩, [], []⟩, .slice none 0 0, .slice none 0 0⟩ : LA).a]) := by
          unfold plainL
          rw [List.map_set, List.map_append]
          rfl
        rw [e5, sizeS_eq]
        have h5 := sumC_set (I := plainL L') (i := i) (l := y'.alts.map LA.a) (by unfold plainL; rw [List.getElem?_map, Hy'.out]; rfl) (l' := y'.alts.map LA.a ++ [(⟨⟨⟨(i : Int), (k : Int), 0, 0, 0, 0, 0⟩, [], []⟩, .slice none 0 0, .slice none 0 0⟩ : LA).a])
        have h6 : sumIf (y'.alts.map LA.a ++ [(⟨⟨⟨(i : Int), (k : Int), 0, 0, 0, 0, 0⟩, [], []⟩, .slice none 0 0, .slice none 0 0⟩ : LA).a]) = sumIf (y'.alts.map LA.a) + 9 := by
          unfold sumIf
          rw [List.map_append, List.sum_append]
          rfl
        have h7 := Hsz.out
        rw [sizeS_eq] at h7
        have h8 : 9 + sumC (plainL L') ≤ 3129 + 9 * k := h7
        show 9 + sumC ((plainL L').set i (y'.alts.map LA.a ++ [(⟨⟨⟨(i : Int), (k : Int), 0, 0, 0, 0, 0⟩, [], []⟩, .slice none 0 0, .slice none 0 0⟩ : LA).a])) ≤ 3129 + 9 * (k + 1)
        omega
    case neg =>
      have hk17 : k = 17 := by have := Hk.out; omega
      subst hk17
      go_upto_region 67 with fail
      obtain ⟨q1, q2, q3, q4, q5, q6, q7, q8, qs, qd⟩ := Hq.out
      have hE : EndC w _ BB n1 cI (some ⟨gI, 0, none⟩) { D with total := t } (plainL L') := Hmid.out.rd.end_ (by obtain ⟨o1, o2, o3, o4, o5⟩ := qd; exact ⟨Ht.out, o2, o3, o4, o5⟩) rfl (by unfold plainL; rw [List.length_map]; exact HL'.out) H.out.cap.1 H.out.cap.2.1
      refine chk_tail hE.kept hE.box hE.cfg hE.len (by have h5 : sizeS ⟨{ D with total := t }, plainL L'⟩ = sizeS ⟨D, plainL L'⟩ := rfl; have h6 := Hsz.out; omega) (lim_alts (l := y'.alts.map LA.a) (by unfold plainL; exact List.mem_map.2 ⟨y', List.mem_of_getElem? Hy'.out, rfl⟩) (by rw [List.length_map, Hyl.out]; decide)) HT.out _ ?_
      assumption
end Go.Proofs.YtjgncofhobhjdaaDoor
