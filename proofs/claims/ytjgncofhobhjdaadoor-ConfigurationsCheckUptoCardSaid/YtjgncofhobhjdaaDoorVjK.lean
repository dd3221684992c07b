/- The law Check: an address in two interfaces; an interface without settings. Printed by gen_ve.py. -/
import Derived.Test.YtjgncofhobhjdaaDoorChecked
import Derived.Deep.RegionHeld3
import Derived.Deep.DrawnRows
import Derived.Deep.DeepCutAuto
import Derived.Deep.LoopGhost
import Derived.Outline
import Derived.Handy
import Derived.OwnWalk
import Derived.BigQuiet
import Derived.Test.YtjgncofhobhjdaaDoorViK
set_option linter.unusedVariables false
set_option linter.unusedSimpArgs false
set_option linter.unusedSectionVars false
namespace Go.Proofs.YtjgncofhobhjdaaDoor
open Go.RowKit
attribute [local go_sem ↓] Go.wp_at_zero Go.wp_at_succ

/-- a row of one, just made -/
theorem own_lit {α : Type} {t : Ty α} {e : TypeId} {w : World} {base b : Nat} {x : α} {cs : List Value} (h : w.heap[b]? = some (.cells cs.toArray e (0, 0))) (hb : base ≤ b) (hl : cs.length = t.size) (hr : t.rel w (apart w (.slice (some ⟨b, 0, none⟩) 1 1)) x cs) : Own t e base w (.slice (some ⟨b, 0, none⟩) 1 1) 1 [x] := by
  refine ⟨rfl, cs, ⟨by rw [hl, Nat.one_mul], .inr ⟨b, 1, cs.toArray, rfl, hb, h, Nat.le_refl _, by unfold maxLen; decide, by simp [hl], by rw [Nat.one_mul, ← hl]; simp⟩⟩, fun i z hz => ?_⟩
  have hi : i = 0 := by
    have := (List.getElem?_eq_some_iff.1 hz).1
    simp at this
    omega
  subst hi
  have hzx : x = z := by simpa using hz
  rw [← hzx, Nat.zero_mul, List.drop_zero, ← hl, List.take_length]
  exact hr
set_option maxRecDepth 1000000 in
set_option maxHeartbeats 16000000 in
theorem chk_13 {u0 u1 u3 u4 u5 u6 u12 u13 u14 u15 u16 u17 u18 u19 u20 u21 u22 u23 u24 u25 u26 u27 u28 u29 u30 u31 u32 u33 u34 u35 u36 u37 u38 u39 u40 u41 u42 u43 u44 u45 u46 u47 u48 u49 u50 u51 u52 u53 u54 u55 u56 u57 u58 u59 u60 u61 u62 u63 u64 u65 u66 u67 u68 u69 u70 u71 u72 u73 u74 u75 u76 u77 u78 u79 u80 u81 u82 u83 u84 u85 u86 u87 u88 u89 u90 u91 u92 u93 u94 u95 u96 u97 u98 u99 u100 u101 u102 u103 u104 u105 u106 u107 u108 u109 u110 u111 u112 u113 u114 u115 u116 u117 u118 u119 u120 u121 u122 u123 u124 u125 u126 u127 u128 u129 u130 u131 u132 u133 u134 u135 u136 u137 u138 u139 u140 u141 u142 u143 u144 u145 u146 u147 u148 u149 u150 u151 u152 u153 u154 u155 u156 u157 u158 u159 u160 u161 u162 u163 u164 u165 u166 u167 u168 u169 u170 u171 u172 u173 u174 u175 u176 u177 u178 u179 u180 u181 u182 u183 u184 u185 u186 u187 u188 u189 u190 u191 u192 u193 u194 u195 u196 u197 u198 u199 u200 u201 u202 u203 u204 u205 u206 u207 u208 u209 u210 u211 u212 u213 u214 u215 u216 u217 u218 u219 u220 u221 u222 u223 u224 u225 u226 u227 u228 u229 u230 u231 u232 u233 u234 u235 u236 u237 u238 u239 u240 u241 u242 u243 u244 u245 u246 u247 u248 u249 u250 u251 u252 u253 u254 u255 u256 u257 u258 u259 u260 u261 u262 u263 u264 u265 u266 u267 u268 u269 u270 u271 u272 u273 u274 u275 u276 u277 u278 u279 u280 u281 u282 u283 u284 u285 u286 u287 u288 u289 u290 u291 u292 u293 u294 u295 u296 u297 u298 u299 u300 u301 u302 u303 u304 u305 u306 u307 u308 u309 u310 u311 u312 u313 u314 u315 u316 u317 u318 u319 u320 u321 u322 u323 u324 u325 u326 u327 u328 u329 u330 u331 u332 u333 u334 u335 u336 u337 u338 u339 u340 u341 u342 u343 u344 u345 u346 u347 u348 u349 u350 u351 u352 u353 u354 u355 u356 u357 u358 u359 u360 u361 u362 u363 u364 u365 u366 u367 u368 u369 u370 u371 u372 u373 u374 u375 u376 : Value} {w Y : World} {S BB gI g n1 cI m cA i j : Nat} {D : CfgD} {I : List (List Alt)} {l : List Alt} {L : List LF} {y : LF} {p : LA} {what : Int} (h : CK w Y S BB gI g n1 cI m cA i j D I l L y p) (hw : u8k what) (h16 : what % 16 = 13) (hT : Tabs w)
    (K K2 : Act → World → Prop) (hK : ∀ a w', Code.wp Tryd.prog (restC code8) (Exit.then K2 (bodyPost Tryd.prog Tryd.f6 fun e w' => e = .returned (.bool true) ∧ Kept w w')) a w' → K a w') (hK2 : ∀ a w', Code.wp Tryd.prog code67 (bodyPost Tryd.prog Tryd.f6 fun e w' => e = .returned (.bool true) ∧ Kept w w') a w' → K2 a w') :
    Code.wp Tryd.prog (headC code8) (Exit.then K (Exit.then K2 (bodyPost Tryd.prog Tryd.f6 fun e w' => e = .returned (.bool true) ∧ Kept w w'))) ⟨#[u0, u1, .int .u8 what, u3, u4, u5, u6, .pointer (some ⟨BB, 0, none⟩), .int .i64 (i : Int), .int .i64 (j : Int), .pointer (some ⟨g, j * 9, none⟩), .int .i64 1, u12, u13, u14, u15, u16, u17, u18, u19, u20, u21, u22, u23, u24, u25, u26, u27, u28, u29, u30, u31, u32, u33, u34, u35, u36, u37, u38, u39, u40, u41, u42, u43, u44, u45, u46, u47, u48, u49, u50, u51, u52, u53, u54, u55, u56, u57, u58, u59, u60, u61, u62, u63, u64, u65, u66, u67, u68, u69, u70, u71, u72, u73, u74, u75, u76, u77, u78, u79, u80, u81, u82, u83, u84, u85, u86, u87, u88, u89, u90, u91, u92, u93, u94, u95, u96, u97, u98, u99, u100, u101, u102, u103, u104, u105, u106, u107, u108, u109, u110, u111, u112, u113, u114, u115, u116, u117, u118, u119, u120, u121, u122, u123, u124, u125, u126, u127, u128, u129, u130, u131, u132, u133, u134, u135, u136, u137, u138, u139, u140, u141, u142, u143, u144, u145, u146, u147, u148, u149, u150, u151, u152, u153, u154, u155, u156, u157, u158, u159, u160, u161, u162, u163, u164, u165, u166, u167, u168, u169, u170, u171, u172, u173, u174, u175, u176, u177, u178, u179, u180, u181, u182, u183, u184, u185, u186, u187, u188, u189, u190, u191, u192, u193, u194, u195, u196, u197, u198, u199, u200, u201, u202, u203, u204, u205, u206, u207, u208, u209, u210, u211, u212, u213, u214, u215, u216, u217, u218, u219, u220, u221, u222, u223, u224, u225, u226, u227, u228, u229, u230, u231, u232, u233, u234, u235, u236, u237, u238, u239, u240, u241, u242, u243, u244, u245, u246, u247, u248, u249, u250, u251, u252, u253, u254, u255, u256, u257, u258, u259, u260, u261, u262, u263, u264, u265, u266, u267, u268, u269, u270, u271, u272, u273, u274, u275, u276, u277, u278, u279, u280, u281, u282, u283, u284, u285, u286, u287, u288, u289, u290, u291, u292, u293, u294, u295, u296, u297, u298, u299, u300, u301, u302, u303, u304, u305, u306, u307, u308, u309, u310, u311, u312, u313, u314, u315, u316, u317, u318, u319, u320, u321, u322, u323, u324, u325, u326, u327, u328, u329, u330, u331, u332, u333, u334, u335, u336, u337, u338, u339, u340, u341, u342, u343, u344, u345, u346, u347, u348, u349, u350, u351, u352, u353, u354, u355, u356, u357, u358, u359, u360, u361, u362, u363, u364, u365, u366, u367, u368, u369, u370, u371, u372, u373, u374, u375, u376], []⟩ Y := by
  obtain ⟨hw0, hw1⟩ := hw
  have hm16 : what.tmod 16 = 13 := by rw [Int.tmod_eq_emod_of_nonneg hw0]; exact h16
  obtain ⟨q1, q2, q3, q4, q5, q6, q7, q8⟩ := h.nums
  have qs := h.size
  have qd := h.ok.1
  have hB : Y.heap[BB]? = some (.cells #[.int .u16 D.total, .int .u8 D.ifs, .int .u8 D.number, .int .u8 D.text, .bool D.self, .bool D.wake, .int .u8 D.power, .slice (some ⟨gI, 0, none⟩) n1 cI] 32 (0, 0)) := h.mid.box
  obtain ⟨cur, hA⟩ := h.heapA
  have lB := heap_lt hB
  have lg := heap_lt hA
  have hk := h.mid.kept
  have hkS := hk.size
  obtain ⟨i8, hi8, h80, h81, h82⟩ := info_parts info5
  obtain ⟨iE, hiE, hE0, hE1, hE2⟩ := info_parts infoEp
  obtain ⟨iI, hiI, hI0, hI1, hI2⟩ := info_parts infoIf
  obtain ⟨iA, hiA, hA0, hA1, hA2⟩ := info_parts infoAlt
  have b7 : Y.cell? ⟨BB, 7, none⟩ = some (.slice (some ⟨gI, 0, none⟩) n1 cI) := cell_heap hB (o := 7) rfl
  have H := hide h
  have HT := hide hT
  have HB := hide hB
  have HA := hide hA
  have Hq := hide (⟨q1, q2, q3, q4, q5, q6, q7, q8, qs, qd⟩ : D.total = (sizeS ⟨D, I⟩ : Int) ∧ D.ifs = (n1 : Int) ∧ p.a.d.num = (i : Int) ∧ p.a.d.alt = (j : Int) ∧ p.a.d.eps = (p.a.eps.length : Int) ∧ i < 6 ∧ j < 16 ∧ p.a.eps.length ≤ 30 ∧ sizeS ⟨D, I⟩ ≤ 3129 ∧ D.ok)
  clear h hT hB hA h16 q1 q2 q3 q4 q5 q6 q7 q8 qs qd hk hkS
  conv => arg 2; whnf
  conv at hK => enter [a, w', 1, 2]; whnf
  conv at hK2 => enter [a, w', 1, 2]; whnf
  have hoI := H.out.mid.lis.own
  rw [H.out.many.2.2] at hoI
  have hn6 := H.out.many.2.1
  have hSY : S ≤ Y.heap.size := by have h5 := H.out.mid.low; omega
  have HoI := hide hoI
  have HnB := hide (own_ne hoI HB.out (by decide))
  clear hoI
  go_upto_region 59 with (at_builtin; refine wpList_append_el (T := lfT) rfl (.tmp 292) (.tmp 294) 30 rfl S 50 iI _ 24 Tryd.underlying30 hiI hI0 hI1 hI2 rfl (by exact Nat.one_pos) _ n1 L (by rfl) (HoI.out.alloc _) Y.heap.size _ _ (⟨[], .slice none 0 0⟩ : LF) (by rfl) (heap_at _ rfl) (by exact ⟨rfl, trivial⟩) (by simp [Value.oneCell']) (by unfold maxLen; omega) (by omega) (by simp; omega) ?_; intro g8 cap8 w8 hown8 hg8 hb8 hat8 hlt8; have hB8 := heap_grown hg8 (heap_past HB.out) (fun e => HnB.out e.symm); have b78 : w8.cell? ⟨BB, 7, none⟩ = some (.slice (some ⟨gI, 0, none⟩) n1 cI) := cell_heap hB8 (o := 7) rfl; have fB8 := frozen_heap hB8 (o := 7); have lB8 := heap_lt hB8)
  have hc8 := hown8.isSlice
  obtain ⟨_, _, he8, hc81, hc82⟩ := hc8
  injection he8 with _ _ he8
  subst he8
  have hm3 := (H.out.mid.rd.keep (show Kept Y (Y.alloc (.cells #[.slice none 0 0] 50)) from (Below.refl _ Y).alloc (Nat.le_refl _) _)).push (y := (⟨[], .slice none 0 0⟩ : LF)) hg8 (by rw [List.length_append, H.out.many.2.2]; exact hown8) ⟨Own.nil _ _ _ _, fun q hq => by cases hq⟩
  refine wp_at (fun Z => MidR w Z S BB (.slice (some ⟨g8, 0, none⟩) (n1 + 1) cap8) D (L ++ [(⟨[], .slice none 0 0⟩ : LF)])) (by exact hm3) (fun Z3 hZ3 => ?_)
  have b13 : Z3.cell? ⟨BB, 1, none⟩ = some (.int .u8 D.ifs) := cell_heap hZ3.box (o := 1) rfl
  have f13 := frozen_heap hZ3.box (o := 1)
  have lB3 := heap_lt hZ3.box
  have hw13 : IntKind.u8.wrap (D.ifs + 1) = D.ifs + 1 := by obtain ⟨q1, q2, q3, q4, q5, q6, q7, q8, qs, qd⟩ := Hq.out; exact wrap8 (by omega) (by omega)
  have HZ3 := hide hZ3
  clear hZ3 hown8 hg8 hb8 hat8 hB8 b78 fB8 lB8 hm3
  go_upto_region 67 with (fail)
  obtain ⟨q1, q2, q3, q4, q5, q6, q7, q8, qs, qd⟩ := Hq.out
  have hE : EndC w _ BB (n1 + 1) cap8 (some ⟨g8, 0, none⟩) { D with ifs := D.ifs + 1 } (I ++ [[]]) := (HZ3.out.setBox (D' := { D with ifs := D.ifs + 1 }) (o := 1) (u := .int .u8 (D.ifs + 1)) (by decide) rfl).end_ (by obtain ⟨o1, o2, o3, o4, o5⟩ := qd; exact ⟨o1, (by unfold u8k; simp only; omega), o3, o4, o5⟩) (by unfold plainL; rw [List.map_append, ← H.out.pl]; rfl) (by rw [List.length_append, H.out.many.1]; rfl) hc81 hc82
  refine chk_tail hE.kept hE.box hE.cfg hE.len (by have h3 : sizeS ⟨{ D with ifs := D.ifs + 1 }, I ++ [[]]⟩ = sizeS ⟨D, I⟩ := (by rw [sizeS_eq, sizeS_eq]; unfold sumC; simp [sumIf]); omega) (bad_empty H.out.chk (by have := H.out.many; omega)) HT.out _ ?_
  assumption
set_option maxRecDepth 1000000 in
set_option maxHeartbeats 16000000 in
theorem chk_12 {u0 u1 u3 u4 u5 u6 u12 u13 u14 u15 u16 u17 u18 u19 u20 u21 u22 u23 u24 u25 u26 u27 u28 u29 u30 u31 u32 u33 u34 u35 u36 u37 u38 u39 u40 u41 u42 u43 u44 u45 u46 u47 u48 u49 u50 u51 u52 u53 u54 u55 u56 u57 u58 u59 u60 u61 u62 u63 u64 u65 u66 u67 u68 u69 u70 u71 u72 u73 u74 u75 u76 u77 u78 u79 u80 u81 u82 u83 u84 u85 u86 u87 u88 u89 u90 u91 u92 u93 u94 u95 u96 u97 u98 u99 u100 u101 u102 u103 u104 u105 u106 u107 u108 u109 u110 u111 u112 u113 u114 u115 u116 u117 u118 u119 u120 u121 u122 u123 u124 u125 u126 u127 u128 u129 u130 u131 u132 u133 u134 u135 u136 u137 u138 u139 u140 u141 u142 u143 u144 u145 u146 u147 u148 u149 u150 u151 u152 u153 u154 u155 u156 u157 u158 u159 u160 u161 u162 u163 u164 u165 u166 u167 u168 u169 u170 u171 u172 u173 u174 u175 u176 u177 u178 u179 u180 u181 u182 u183 u184 u185 u186 u187 u188 u189 u190 u191 u192 u193 u194 u195 u196 u197 u198 u199 u200 u201 u202 u203 u204 u205 u206 u207 u208 u209 u210 u211 u212 u213 u214 u215 u216 u217 u218 u219 u220 u221 u222 u223 u224 u225 u226 u227 u228 u229 u230 u231 u232 u233 u234 u235 u236 u237 u238 u239 u240 u241 u242 u243 u244 u245 u246 u247 u248 u249 u250 u251 u252 u253 u254 u255 u256 u257 u258 u259 u260 u261 u262 u263 u264 u265 u266 u267 u268 u269 u270 u271 u272 u273 u274 u275 u276 u277 u278 u279 u280 u281 u282 u283 u284 u285 u286 u287 u288 u289 u290 u291 u292 u293 u294 u295 u296 u297 u298 u299 u300 u301 u302 u303 u304 u305 u306 u307 u308 u309 u310 u311 u312 u313 u314 u315 u316 u317 u318 u319 u320 u321 u322 u323 u324 u325 u326 u327 u328 u329 u330 u331 u332 u333 u334 u335 u336 u337 u338 u339 u340 u341 u342 u343 u344 u345 u346 u347 u348 u349 u350 u351 u352 u353 u354 u355 u356 u357 u358 u359 u360 u361 u362 u363 u364 u365 u366 u367 u368 u369 u370 u371 u372 u373 u374 u375 u376 : Value} {w Y : World} {S BB gI g n1 cI m cA i j : Nat} {D : CfgD} {I : List (List Alt)} {l : List Alt} {L : List LF} {y : LF} {p : LA} {what : Int} (h : CK w Y S BB gI g n1 cI m cA i j D I l L y p) (hw : u8k what) (h16 : what % 16 = 12) (hT : Tabs w)
    (K K2 : Act → World → Prop) (hK : ∀ a w', Code.wp Tryd.prog (restC code8) (Exit.then K2 (bodyPost Tryd.prog Tryd.f6 fun e w' => e = .returned (.bool true) ∧ Kept w w')) a w' → K a w') (hK2 : ∀ a w', Code.wp Tryd.prog code67 (bodyPost Tryd.prog Tryd.f6 fun e w' => e = .returned (.bool true) ∧ Kept w w') a w' → K2 a w') :
    Code.wp Tryd.prog (headC code8) (Exit.then K (Exit.then K2 (bodyPost Tryd.prog Tryd.f6 fun e w' => e = .returned (.bool true) ∧ Kept w w'))) ⟨#[u0, u1, .int .u8 what, u3, u4, u5, u6, .pointer (some ⟨BB, 0, none⟩), .int .i64 (i : Int), .int .i64 (j : Int), .pointer (some ⟨g, j * 9, none⟩), .int .i64 1, u12, u13, u14, u15, u16, u17, u18, u19, u20, u21, u22, u23, u24, u25, u26, u27, u28, u29, u30, u31, u32, u33, u34, u35, u36, u37, u38, u39, u40, u41, u42, u43, u44, u45, u46, u47, u48, u49, u50, u51, u52, u53, u54, u55, u56, u57, u58, u59, u60, u61, u62, u63, u64, u65, u66, u67, u68, u69, u70, u71, u72, u73, u74, u75, u76, u77, u78, u79, u80, u81, u82, u83, u84, u85, u86, u87, u88, u89, u90, u91, u92, u93, u94, u95, u96, u97, u98, u99, u100, u101, u102, u103, u104, u105, u106, u107, u108, u109, u110, u111, u112, u113, u114, u115, u116, u117, u118, u119, u120, u121, u122, u123, u124, u125, u126, u127, u128, u129, u130, u131, u132, u133, u134, u135, u136, u137, u138, u139, u140, u141, u142, u143, u144, u145, u146, u147, u148, u149, u150, u151, u152, u153, u154, u155, u156, u157, u158, u159, u160, u161, u162, u163, u164, u165, u166, u167, u168, u169, u170, u171, u172, u173, u174, u175, u176, u177, u178, u179, u180, u181, u182, u183, u184, u185, u186, u187, u188, u189, u190, u191, u192, u193, u194, u195, u196, u197, u198, u199, u200, u201, u202, u203, u204, u205, u206, u207, u208, u209, u210, u211, u212, u213, u214, u215, u216, u217, u218, u219, u220, u221, u222, u223, u224, u225, u226, u227, u228, u229, u230, u231, u232, u233, u234, u235, u236, u237, u238, u239, u240, u241, u242, u243, u244, u245, u246, u247, u248, u249, u250, u251, u252, u253, u254, u255, u256, u257, u258, u259, u260, u261, u262, u263, u264, u265, u266, u267, u268, u269, u270, u271, u272, u273, u274, u275, u276, u277, u278, u279, u280, u281, u282, u283, u284, u285, u286, u287, u288, u289, u290, u291, u292, u293, u294, u295, u296, u297, u298, u299, u300, u301, u302, u303, u304, u305, u306, u307, u308, u309, u310, u311, u312, u313, u314, u315, u316, u317, u318, u319, u320, u321, u322, u323, u324, u325, u326, u327, u328, u329, u330, u331, u332, u333, u334, u335, u336, u337, u338, u339, u340, u341, u342, u343, u344, u345, u346, u347, u348, u349, u350, u351, u352, u353, u354, u355, u356, u357, u358, u359, u360, u361, u362, u363, u364, u365, u366, u367, u368, u369, u370, u371, u372, u373, u374, u375, u376], []⟩ Y := by
  obtain ⟨hw0, hw1⟩ := hw
  have hm16 : what.tmod 16 = 12 := by rw [Int.tmod_eq_emod_of_nonneg hw0]; exact h16
  obtain ⟨q1, q2, q3, q4, q5, q6, q7, q8⟩ := h.nums
  have qs := h.size
  have qd := h.ok.1
  have hB : Y.heap[BB]? = some (.cells #[.int .u16 D.total, .int .u8 D.ifs, .int .u8 D.number, .int .u8 D.text, .bool D.self, .bool D.wake, .int .u8 D.power, .slice (some ⟨gI, 0, none⟩) n1 cI] 32 (0, 0)) := h.mid.box
  obtain ⟨cur, hA⟩ := h.heapA
  have lB := heap_lt hB
  have lg := heap_lt hA
  have hk := h.mid.kept
  have hkS := hk.size
  obtain ⟨i8, hi8, h80, h81, h82⟩ := info_parts info5
  obtain ⟨iE, hiE, hE0, hE1, hE2⟩ := info_parts infoEp
  obtain ⟨iI, hiI, hI0, hI1, hI2⟩ := info_parts infoIf
  obtain ⟨iA, hiA, hA0, hA1, hA2⟩ := info_parts infoAlt
  have b7 : Y.cell? ⟨BB, 7, none⟩ = some (.slice (some ⟨gI, 0, none⟩) n1 cI) := cell_heap hB (o := 7) rfl
  have H := hide h
  have HT := hide hT
  have HB := hide hB
  have HA := hide hA
  have Hq := hide (⟨q1, q2, q3, q4, q5, q6, q7, q8, qs, qd⟩ : D.total = (sizeS ⟨D, I⟩ : Int) ∧ D.ifs = (n1 : Int) ∧ p.a.d.num = (i : Int) ∧ p.a.d.alt = (j : Int) ∧ p.a.d.eps = (p.a.eps.length : Int) ∧ i < 6 ∧ j < 16 ∧ p.a.eps.length ≤ 30 ∧ sizeS ⟨D, I⟩ ≤ 3129 ∧ D.ok)
  clear h hT hB hA h16 q1 q2 q3 q4 q5 q6 q7 q8 qs qd hk hkS
  conv => arg 2; whnf
  conv at hK => enter [a, w', 1, 2]; whnf
  conv at hK2 => enter [a, w', 1, 2]; whnf
  go_upto_region 52 with (fail)
  refine wp_at (fun Z => CK w Z S BB gI g n1 cI m cA i j D I l L y p ∧ Z.heap[Y.heap.size]? = some (.cells #[.int .u8 15, .bool false, .int .u8 2, .int .u16 8, .int .u8 0] 59 (0, 0))) ⟨H.out.keep ((Below.refl _ Y).alloc (Nat.le_refl _) _), heap_at _ rfl⟩ (fun Z0 hZ0 => ?_)
  obtain ⟨hZ0, hE0b⟩ := hZ0
  have hgE : g < Y.heap.size := heap_lt HA.out
  obtain ⟨E0, hE0d⟩ : ∃ E0, Y.heap.size = E0 := ⟨_, rfl⟩
  rw [hE0d] at hE0b hgE
  simp only [hE0d]
  obtain ⟨cur0, hA0⟩ := hZ0.heapA
  have lg0 := heap_lt hA0
  have lE0 := heap_lt hE0b
  have hkS := hZ0.mid.kept.size
  have hB0 : Z0.heap[BB]? = some (.cells #[.int .u16 D.total, .int .u8 D.ifs, .int .u8 D.number, .int .u8 D.text, .bool D.self, .bool D.wake, .int .u8 D.power, .slice (some ⟨gI, 0, none⟩) n1 cI] 32 (0, 0)) := hZ0.mid.box
  have lB0 := heap_lt hB0
  have hX := hZ0.rows.2
  obtain ⟨XX, cX, hXX, hx1, hx2⟩ := hX.isSlice
  have c8 : Z0.cell? ⟨g, j * 9 + 8, none⟩ = some p.E := hZ0.cells 8 _ rfl
  obtain ⟨nX, hnX⟩ : ∃ nX, p.a.eps.length = nX := ⟨_, rfl⟩
  have hnX2 : nX ≤ 3129 := by have h5 := hZ0.psize; unfold altSize at h5; omega
  rw [hXX, hnX] at hX c8
  rw [hnX] at hXX
  have f8 := frozen_heap hA0 (o := j * 9 + 8)
  have HX := hide hX
  have HXX := hide hXX
  have HnX := hide hnX
  have HgX := hide hZ0.neE
  have hSY : S ≤ Z0.heap.size := by have := hZ0.mid.low; omega
  clear hX hXX hnX
  have hXE : p.E.ownBlock ≠ some E0 := fun e => by have h5 := (H.out.rows.2.lt e).2; rw [hE0d] at h5; omega
  have HXE := hide hXE
  have e0 := cell_heap hE0b (o := 0) rfl; have e1 := cell_heap hE0b (o := 1) rfl; have e2 := cell_heap hE0b (o := 2) rfl; have e3 := cell_heap hE0b (o := 3) rfl; have e4 := cell_heap hE0b (o := 4) rfl
  have HE0 := hide hE0b
  have HA0 := hide hA0
  have HB0 := hide hB0
  have H0 := hide hZ0
  clear hZ0 hA0 hE0b hXE hB0 hE0d
  go_region_law (refine step_append_el (T := epT) rfl (.tmp 249) (.tmp 251) 54 rfl S 59 iE _ 8 Tryd.underlying54 hiE hE0 hE1 hE2 rfl (by exact (by decide : 0 < 5)) _ nX p.a.eps (by rfl) (HX.out.drew.alloc _) Z0.heap.size _ _ EPC (by rfl) (heap_at _ rfl) (by exact ⟨rfl, epc_ok⟩) (by simp [Value.oneCell']) (by unfold maxLen; omega) (by omega) (by simp; omega) ?_; intro g9 cap9 w9 hown9 hg9 hb9 hat9 hlt9; have hg9' := hg9; rw [← HXX.out] at hg9'; have hA9 := heap_grown hg9' ((heap_past HA0.out)) (fun e => HgX.out e.symm); have c89 : w9.cell? ⟨g, j * 9 + 8, none⟩ = some (.slice XX nX cX) := (cell_of_row _ _ _ _ _ _ hA9).trans ((cell_of_row _ _ _ _ _ _ HA0.out).symm.trans c8); have f89 := frozen_heap hA9 (o := j * 9 + 8); have lg9 := heap_lt hA9; have hE9 := heap_grown hg9' (heap_past HE0.out) (fun e => HXE.out e.symm))
  all_goals
    have hm1 := (H0.out.mid.keep (show Kept Z0 (Z0.drew.alloc (.cells #[.int .u8 15, .bool false, .int .u8 2, .int .u16 8, .int .u8 0] 59)) from (Below.refl _ Z0).drew.alloc (by exact Nat.le_refl _) _)).eps H.out.y H.out.p H.out.own H.out.pok.1 (E' := (.slice (some ⟨g9, 0, none⟩) (nX + 1) cap9)) (es' := p.a.eps ++ [EPC]) hg9' (by rw [List.length_append, HnX.out]; exact hown9) (hat9.elim (fun h => .inl (by rw [HXX.out]; exact h.symm)) (fun h => .inr ⟨g9, rfl, (by first | omega | exact Nat.le_of_eq h.symm)⟩))
    have HM := hide hm1
    have HE9 := hide hE9
    clear hm1 hown9 hg9 hg9' hb9 hat9 hA9 c89 f89 lg9 hE9
    go_upto_region 53 with (fail)
    refine wp_at (fun Z => MidC w Z S BB (.slice (some ⟨gI, 0, none⟩) n1 cI) D (L.set i ⟨y.alts.set j ⟨{ p.a with eps := p.a.eps ++ [EPC] }, p.X, (.slice (some ⟨g9, 0, none⟩) (nX + 1) cap9)⟩, y.v⟩) ∧ Z.heap[E0]? = some (.cells #[.int .u8 15, .bool false, .int .u8 2, .int .u16 8, .int .u8 0] 59 (0, 0))) (⟨by first | exact HM.out | exact HM.out.keep (Below.refl _ _).drew, heap_other HE9.out (fun e => by have e2 : E0 = g := e; omega)⟩) (fun Z1 hZ1 => ?_)
    obtain ⟨hZ1, hE1b⟩ := hZ1
    have c2 : Z1.cell? ⟨g, j * 9 + 2, none⟩ = some (.int .u8 p.a.d.eps) := hZ1.cells (set_y H.out.y) (set_p H.out.p) H.out.v (by rw [List.length_set]; exact H.out.len) 2 _ rfl
    obtain ⟨cu1, hA1⟩ := hZ1.heapA (set_y H.out.y) H.out.own
    have f2 := frozen_heap hA1 (o := j * 9 + 2)
    have lg1 := heap_lt hA1
    have hw8 : IntKind.u8.wrap (p.a.d.eps + 1) = p.a.d.eps + 1 := by obtain ⟨q1, q2, q3, q4, q5, q6, q7, q8, qs, qd⟩ := Hq.out; exact wrap8 (by omega) (by omega)
    have hd2 : ({ p.a.d with eps := p.a.d.eps + 1 } : IfD).ok := by obtain ⟨q1, q2, q3, q4, q5, q6, q7, q8, qs, qd⟩ := Hq.out; obtain ⟨o0, o1, o2, o3, o4, o5, o6⟩ := H.out.pok.1; exact ⟨o0, o1, (by unfold u8k; simp only; omega), o3, o4, o5, o6⟩
    have Hd2 := hide hd2
    have HZ1 := hide hZ1
    have HA1 := hide hA1
    have HE1b := hide hE1b
    clear hZ1 hA1 hd2 hE1b
    go_upto_region 54 with (fail)
    have hm2 : MidC w (Z1.setCell ⟨g, j * 9 + 2, none⟩ (.int .u8 (p.a.d.eps + 1))) S BB (.slice (some ⟨gI, 0, none⟩) n1 cI) D (L.set i ⟨y.alts.set j ⟨{ p.a with d := { p.a.d with eps := p.a.d.eps + 1 }, eps := p.a.eps ++ [EPC] }, p.X, (.slice (some ⟨g9, 0, none⟩) (nX + 1) cap9)⟩, y.v⟩) := by
      have h5 := HZ1.out.field (set_y H.out.y) (set_p H.out.p) H.out.own (d' := { p.a.d with eps := p.a.d.eps + 1 }) (o := 2) (u := .int .u8 (p.a.d.eps + 1)) (by decide) rfl Hd2.out
      rw [← set_set_y (L := L) (i := i) (y := y) (j := j) (p1 := ⟨{ p.a with eps := p.a.eps ++ [EPC] }, p.X, (.slice (some ⟨g9, 0, none⟩) (nX + 1) cap9)⟩) (p2 := ⟨{ p.a with d := { p.a.d with eps := p.a.d.eps + 1 }, eps := p.a.eps ++ [EPC] }, p.X, (.slice (some ⟨g9, 0, none⟩) (nX + 1) cap9)⟩)]
      exact h5
    have HM2 := hide hm2
    clear hm2 c2 f2 lg1 hw8
    refine wp_at (fun Z => MidC w Z S BB (.slice (some ⟨gI, 0, none⟩) n1 cI) D (L.set i ⟨y.alts.set j ⟨{ p.a with d := { p.a.d with eps := p.a.d.eps + 1 }, eps := p.a.eps ++ [EPC] }, p.X, (.slice (some ⟨g9, 0, none⟩) (nX + 1) cap9)⟩, y.v⟩) ∧ Z.heap[E0]? = some (.cells #[.int .u8 15, .bool false, .int .u8 2, .int .u16 8, .int .u8 0] 59 (0, 0))) ⟨HM2.out, heap_other HE1b.out (fun e => by have e2 : E0 = g := e; omega)⟩ (fun Z2 hZ2 => ?_)
    obtain ⟨hZ2, hE2b⟩ := hZ2
    have e02 := cell_heap hE2b (o := 0) rfl; have e12 := cell_heap hE2b (o := 1) rfl; have e22 := cell_heap hE2b (o := 2) rfl; have e32 := cell_heap hE2b (o := 3) rfl; have e42 := cell_heap hE2b (o := 4) rfl
    have lE2 := heap_lt hE2b
    have b72 : Z2.cell? ⟨BB, 7, none⟩ = some (.slice (some ⟨gI, 0, none⟩) n1 cI) := cell_heap hZ2.box (o := 7) rfl
    have lB2 := heap_lt hZ2.box
    have hSZ : S ≤ Z2.heap.size := by have h5 := hZ2.low; omega
    have hoI := hZ2.lis.own
    rw [show (L.set i ⟨y.alts.set j ⟨{ p.a with d := { p.a.d with eps := p.a.d.eps + 1 }, eps := p.a.eps ++ [EPC] }, p.X, (.slice (some ⟨g9, 0, none⟩) (nX + 1) cap9)⟩, y.v⟩).length = n1 by rw [List.length_set]; exact H.out.many.2.2] at hoI
    have hn6 := H.out.many.2.1
    have hw3 : IntKind.u8.wrap (n1 : Int) = (n1 : Int) := wrap8 (by omega) (by omega)
    have HoI := hide hoI
    have HZ2 := hide hZ2
    have HBZ2 := hide (show Z2.heap[BB]? = some (.cells #[.int .u16 D.total, .int .u8 D.ifs, .int .u8 D.number, .int .u8 D.text, .bool D.self, .bool D.wake, .int .u8 D.power, .slice (some ⟨gI, 0, none⟩) n1 cI] 32 (0, 0)) from hZ2.box)
    have HnB := hide (own_ne hoI hZ2.box (by decide))
    clear hoI hZ2 hE2b
    have hy3 : (⟨[⟨⟨⟨(n1 : Int), 0, 1, 0, 0, 0, 0⟩, [], [EPC]⟩, .slice none 0 0, .slice (some ⟨Z2.heap.size, 0, none⟩) 1 1⟩], .slice (some ⟨Z2.heap.size + 1, 0, none⟩) 1 1⟩ : LF).rows S (((Z2.alloc (.cells #[.int .u8 15, .bool false, .int .u8 2, .int .u16 8, .int .u8 0] 59)).alloc (.cells #[.int .u8 (n1 : Int), .int .u8 0, .int .u8 1, .int .u8 0, .int .u8 0, .int .u8 0, .int .u8 0, .slice none 0 0, .slice (some ⟨Z2.heap.size, 0, none⟩) 1 1] 56)).alloc (.cells #[.slice (some ⟨Z2.heap.size + 1, 0, none⟩) 1 1] 50)) := by
      refine ⟨own_lit (heap_past (heap_at _ (by first | rfl | simp))) (by omega) rfl ⟨rfl, ?_⟩, fun q hq => ?_⟩
      · refine ⟨?_, ?_, ?_, ?_, ?_, ?_, ?_⟩ <;> unfold u8k <;> simp <;> omega
      · have hq2 : q = ⟨⟨⟨(n1 : Int), 0, 1, 0, 0, 0, 0⟩, [], [EPC]⟩, .slice none 0 0, .slice (some ⟨Z2.heap.size, 0, none⟩) 1 1⟩ := by simpa using hq
        rw [hq2]
        exact ⟨Own.nil _ _ _ _, own_lit (x := EPC) (heap_past (heap_past (heap_at _ rfl))) (by omega) rfl ⟨rfl, epc_ok⟩⟩
    have Hy3 := hide hy3
    clear hy3
    go_upto_region 55 with (at_builtin; refine wpList_append_el (T := lfT) rfl (.tmp 265) (.tmp 274) 30 rfl S 50 iI _ 24 Tryd.underlying30 hiI hI0 hI1 hI2 rfl (by exact Nat.one_pos) _ n1 (L.set i ⟨y.alts.set j ⟨{ p.a with d := { p.a.d with eps := p.a.d.eps + 1 }, eps := p.a.eps ++ [EPC] }, p.X, (.slice (some ⟨g9, 0, none⟩) (nX + 1) cap9)⟩, y.v⟩) (by rfl) (((HoI.out.alloc _).alloc _).alloc _) (Z2.heap.size + 1 + 1) _ _ (⟨[⟨⟨⟨(n1 : Int), 0, 1, 0, 0, 0, 0⟩, [], [EPC]⟩, .slice none 0 0, .slice (some ⟨Z2.heap.size, 0, none⟩) 1 1⟩], .slice (some ⟨Z2.heap.size + 1, 0, none⟩) 1 1⟩ : LF) (by rfl) (heap_at _ (by first | rfl | simp)) (by exact ⟨rfl, trivial⟩) (by simp [Value.oneCell']) (by unfold maxLen; omega) (by omega) (by simp; omega) ?_; intro g8 cap8 w8 hown8 hg8 hb8 hat8 hlt8; have hB8 := heap_grown hg8 (heap_past (heap_past (heap_past HBZ2.out))) (fun e => HnB.out e.symm); have b78 : w8.cell? ⟨BB, 7, none⟩ = some (.slice (some ⟨gI, 0, none⟩) n1 cI) := cell_heap hB8 (o := 7) rfl; have fB8 := frozen_heap hB8 (o := 7); have lB8 := heap_lt hB8)
    have hc8 := hown8.isSlice
    obtain ⟨_, _, he8, hc81, hc82⟩ := hc8
    injection he8 with _ _ he8
    subst he8
    have hm3 := (HZ2.out.rd.keep (show Kept Z2 (((Z2.alloc (.cells #[.int .u8 15, .bool false, .int .u8 2, .int .u16 8, .int .u8 0] 59)).alloc (.cells #[.int .u8 (n1 : Int), .int .u8 0, .int .u8 1, .int .u8 0, .int .u8 0, .int .u8 0, .int .u8 0, .slice none 0 0, .slice (some ⟨Z2.heap.size, 0, none⟩) 1 1] 56)).alloc (.cells #[.slice (some ⟨Z2.heap.size + 1, 0, none⟩) 1 1] 50)) from (((Below.refl _ Z2).alloc (Nat.le_refl _) _).alloc (by rw [World.size_alloc]; exact Nat.le_succ _) _).alloc (by rw [World.size_alloc, World.size_alloc]; omega) _)).push (y := (⟨[⟨⟨⟨(n1 : Int), 0, 1, 0, 0, 0, 0⟩, [], [EPC]⟩, .slice none 0 0, .slice (some ⟨Z2.heap.size, 0, none⟩) 1 1⟩], .slice (some ⟨Z2.heap.size + 1, 0, none⟩) 1 1⟩ : LF)) hg8 (by rw [List.length_append, show (L.set i ⟨y.alts.set j ⟨{ p.a with d := { p.a.d with eps := p.a.d.eps + 1 }, eps := p.a.eps ++ [EPC] }, p.X, (.slice (some ⟨g9, 0, none⟩) (nX + 1) cap9)⟩, y.v⟩).length = n1 by rw [List.length_set]; exact H.out.many.2.2]; exact hown8) Hy3.out
    refine wp_at (fun Z => MidR w Z S BB (.slice (some ⟨g8, 0, none⟩) (n1 + 1) cap8) D ((L.set i ⟨y.alts.set j ⟨{ p.a with d := { p.a.d with eps := p.a.d.eps + 1 }, eps := p.a.eps ++ [EPC] }, p.X, (.slice (some ⟨g9, 0, none⟩) (nX + 1) cap9)⟩, y.v⟩) ++ [(⟨[⟨⟨⟨(n1 : Int), 0, 1, 0, 0, 0, 0⟩, [], [EPC]⟩, .slice none 0 0, .slice (some ⟨Z2.heap.size, 0, none⟩) 1 1⟩], .slice (some ⟨Z2.heap.size + 1, 0, none⟩) 1 1⟩ : LF)])) (by exact hm3) (fun Z3 hZ3 => ?_)
    have b13 : Z3.cell? ⟨BB, 1, none⟩ = some (.int .u8 D.ifs) := cell_heap hZ3.box (o := 1) rfl
    have f13 := frozen_heap hZ3.box (o := 1)
    have lB3 := heap_lt hZ3.box
    have hw13 : IntKind.u8.wrap (D.ifs + 1) = D.ifs + 1 := by obtain ⟨q1, q2, q3, q4, q5, q6, q7, q8, qs, qd⟩ := Hq.out; exact wrap8 (by omega) (by omega)
    have HZ3 := hide hZ3
    clear hZ3 hown8 hg8 hb8 hat8 hB8 b78 fB8 lB8 hm3
    go_upto_region 56 with (fail)
    have HM4 := hide (HZ3.out.setBox (D' := { D with ifs := D.ifs + 1 }) (o := 1) (u := .int .u8 (D.ifs + 1)) (by decide) rfl)
    refine wp_at (fun Z => MidR w Z S BB (.slice (some ⟨g8, 0, none⟩) (n1 + 1) cap8) { D with ifs := D.ifs + 1 } ((L.set i ⟨y.alts.set j ⟨{ p.a with d := { p.a.d with eps := p.a.d.eps + 1 }, eps := p.a.eps ++ [EPC] }, p.X, (.slice (some ⟨g9, 0, none⟩) (nX + 1) cap9)⟩, y.v⟩) ++ [(⟨[⟨⟨⟨(n1 : Int), 0, 1, 0, 0, 0, 0⟩, [], [EPC]⟩, .slice none 0 0, .slice (some ⟨Z2.heap.size, 0, none⟩) 1 1⟩], .slice (some ⟨Z2.heap.size + 1, 0, none⟩) 1 1⟩ : LF)])) (by first | exact HM4.out | exact HM4.out.keep (Below.refl _ _).drew) (fun Z hZ => ?_)
    have b0 : Z.cell? ⟨BB, 0, none⟩ = some (.int .u16 D.total) := cell_heap hZ.box (o := 0) rfl
    have f0 := frozen_heap hZ.box (o := 0)
    have lBZ := heap_lt hZ.box
    have hwt : IntKind.u16.wrap (D.total + 23) = D.total + 23 := by obtain ⟨q1, q2, q3, q4, q5, q6, q7, q8, qs, qd⟩ := Hq.out; exact wrap16 (by omega) (by omega)
    have HZ := hide hZ
    clear hZ
    go_upto_region 67 with (fail)
    obtain ⟨q1, q2, q3, q4, q5, q6, q7, q8, qs, qd⟩ := Hq.out
    have hE : EndC w _ BB (n1 + 1) cap8 (some ⟨g8, 0, none⟩) { D with ifs := D.ifs + 1, total := D.total + 23 } (I.set i (l.set j { p.a with d := { p.a.d with eps := p.a.d.eps + 1 }, eps := p.a.eps ++ [EPC] }) ++ [[⟨⟨(n1 : Int), 0, 1, 0, 0, 0, 0⟩, [], [EPC]⟩]]) := (HZ.out.setBox (D' := { D with ifs := D.ifs + 1, total := D.total + 23 }) (o := 0) (u := .int .u16 (D.total + 23)) (by decide) rfl).end_ (by obtain ⟨o1, o2, o3, o4, o5⟩ := qd; exact ⟨(by unfold u16k; simp only; omega), (by unfold u8k; simp only; omega), o3, o4, o5⟩) (by unfold plainL; rw [List.map_append]; congr 1; rw [← H.out.pl]; exact plainL_set (l := l) (by rw [H.out.pl]; exact H.out.hl) H.out.l) (by rw [List.length_append, List.length_set, H.out.many.1]; rfl) hc81 hc82
    refine chk_tail hE.kept hE.box hE.cfg hE.len (by have h1 := size_at (D := D) (D' := { D with ifs := D.ifs + 1, total := D.total + 23 }) (a' := { p.a with d := { p.a.d with eps := p.a.d.eps + 1 }, eps := p.a.eps ++ [EPC] }) H.out.hl H.out.ha; have h2 : altSize { p.a with d := { p.a.d with eps := p.a.d.eps + 1 }, eps := p.a.eps ++ [EPC] } = altSize p.a + 7 := (by unfold altSize; simp; omega); have h3 : sizeS ⟨{ D with ifs := D.ifs + 1, total := D.total + 23 }, I.set i (l.set j { p.a with d := { p.a.d with eps := p.a.d.eps + 1 }, eps := p.a.eps ++ [EPC] }) ++ [[⟨⟨(n1 : Int), 0, 1, 0, 0, 0, 0⟩, [], [EPC]⟩]]⟩ = sizeS ⟨{ D with ifs := D.ifs + 1, total := D.total + 23 }, I.set i (l.set j { p.a with d := { p.a.d with eps := p.a.d.eps + 1 }, eps := p.a.eps ++ [EPC] })⟩ + 16 := (by rw [sizeS_eq, sizeS_eq]; unfold sumC; simp only [List.map_append, List.sum_append, List.map_cons, List.map_nil, List.sum_cons, List.sum_nil]; show _ = _ + 16; rw [show sumIf [(⟨⟨(n1 : Int), 0, 1, 0, 0, 0, 0⟩, [], [EPC]⟩ : Alt)] = 16 from rfl]; omega); omega) (bad_both H.out.chk H.out.hl H.out.ha rfl rfl (by have := H.out.many; omega) (by omega)) HT.out _ ?_
    assumption
end Go.Proofs.YtjgncofhobhjdaaDoor
