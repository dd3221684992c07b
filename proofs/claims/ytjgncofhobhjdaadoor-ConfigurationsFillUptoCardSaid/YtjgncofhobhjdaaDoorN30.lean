/- The law Check, its first cases. -/
import Derived.Test.YtjgncofhobhjdaaDoorChecked
import Derived.Deep.RegionHeld3
import Derived.Deep.DrawnRows
import Derived.Deep.DeepCutAuto
import Derived.Deep.LoopGhost
import Derived.Outline
import Derived.Handy
import Derived.OwnWalk
import Derived.BigQuiet
import Derived.Test.YtjgncofhobhjdaaDoorN29
import Derived.Test.YtjgncofhobhjdaaDoorN28
set_option linter.unusedVariables false
set_option linter.unusedSimpArgs false
set_option linter.unusedSectionVars false
/- The law Check: no defect; the total; the count of the interfaces. Printed by gen_ve.py. -/
namespace Go.Proofs.YtjgncofhobhjdaaDoor
open Go.RowKit
attribute [local go_sem ↓] Go.wp_at_zero Go.wp_at_succ

noncomputable def code8 : Code := (Tryd.f6.body.bind (findR 8)).getD .skip
theorem wrap16 {z : Int} (h0 : 0 ≤ z) (h1 : z < 65536) : IntKind.u16.wrap z = z := by
  have : IntKind.u16.wrap z = z % 65536 := by simp [IntKind.wrap, IntKind.signed, IntKind.bits]
  omega
theorem wrap8 {z : Int} (h0 : 0 ≤ z) (h1 : z < 256) : IntKind.u8.wrap z = z := by
  have : IntKind.u8.wrap z = z % 256 := by simp [IntKind.wrap, IntKind.signed, IntKind.bits]
  omega
section
variable {w Y : World} {S BB gI g n1 cI m cA i j : Nat} {D D' : CfgD} {I : List (List Alt)} {l : List Alt} {L : List LF} {y : LF} {p : LA}
/-- the numbers of the law's state -/
theorem CK.nums (h : CK w Y S BB gI g n1 cI m cA i j D I l L y p) : D.total = (sizeS ⟨D, I⟩ : Int) ∧ D.ifs = (n1 : Int) ∧ p.a.d.num = (i : Int) ∧ p.a.d.alt = (j : Int) ∧ p.a.d.eps = (p.a.eps.length : Int) ∧ i < 6 ∧ j < 16 ∧ p.a.eps.length ≤ 30 := by
  obtain ⟨h1, h2, h3⟩ := at_counted h.chk h.hl h.ha
  have h4 := h.chk.ifs
  have h5 : D.ifs = (I.length : Int) := h4
  have h6 := (List.getElem?_eq_some_iff.1 h.hl).1
  have h7 := (List.getElem?_eq_some_iff.1 h.ha).1
  have h8 := (h.chk.each l (List.mem_of_getElem? h.hl)).1
  obtain ⟨b, hb⟩ := alt_good (h.chk.valid.alts l (List.mem_of_getElem? h.hl) p.a (List.mem_of_getElem? h.ha))
  have h9 := hb.iface
  unfold okIf at h9
  simp only [Bool.and_eq_true, decide_eq_true_eq] at h9
  have h10 := h.many
  exact ⟨h.chk.total, by rw [h5, h10.1], h1, h2, h3, by omega, by omega, by omega⟩
end
set_option maxRecDepth 1000000 in
set_option maxHeartbeats 16000000 in
theorem chk_0 {u0 u1 u3 u4 u5 u6 u12 u13 u14 u15 u16 u17 u18 u19 u20 u21 u22 u23 u24 u25 u26 u27 u28 u29 u30 u31 u32 u33 u34 u35 u36 u37 u38 u39 u40 u41 u42 u43 u44 u45 u46 u47 u48 u49 u50 u51 u52 u53 u54 u55 u56 u57 u58 u59 u60 u61 u62 u63 u64 u65 u66 u67 u68 u69 u70 u71 u72 u73 u74 u75 u76 u77 u78 u79 u80 u81 u82 u83 u84 u85 u86 u87 u88 u89 u90 u91 u92 u93 u94 u95 u96 u97 u98 u99 u100 u101 u102 u103 u104 u105 u106 u107 u108 u109 u110 u111 u112 u113 u114 u115 u116 u117 u118 u119 u120 u121 u122 u123 u124 u125 u126 u127 u128 u129 u130 u131 u132 u133 u134 u135 u136 u137 u138 u139 u140 u141 u142 u143 u144 u145 u146 u147 u148 u149 u150 u151 u152 u153 u154 u155 u156 u157 u158 u159 u160 u161 u162 u163 u164 u165 u166 u167 u168 u169 u170 u171 u172 u173 u174 u175 u176 u177 u178 u179 u180 u181 u182 u183 u184 u185 u186 u187 u188 u189 u190 u191 u192 u193 u194 u195 u196 u197 u198 u199 u200 u201 u202 u203 u204 u205 u206 u207 u208 u209 u210 u211 u212 u213 u214 u215 u216 u217 u218 u219 u220 u221 u222 u223 u224 u225 u226 u227 u228 u229 u230 u231 u232 u233 u234 u235 u236 u237 u238 u239 u240 u241 u242 u243 u244 u245 u246 u247 u248 u249 u250 u251 u252 u253 u254 u255 u256 u257 u258 u259 u260 u261 u262 u263 u264 u265 u266 u267 u268 u269 u270 u271 u272 u273 u274 u275 u276 u277 u278 u279 u280 u281 u282 u283 u284 u285 u286 u287 u288 u289 u290 u291 u292 u293 u294 u295 u296 u297 u298 u299 u300 u301 u302 u303 u304 u305 u306 u307 u308 u309 u310 u311 u312 u313 u314 u315 u316 u317 u318 u319 u320 u321 u322 u323 u324 u325 u326 u327 u328 u329 u330 u331 u332 u333 u334 u335 u336 u337 u338 u339 u340 u341 u342 u343 u344 u345 u346 u347 u348 u349 u350 u351 u352 u353 u354 u355 u356 u357 u358 u359 u360 u361 u362 u363 u364 u365 u366 u367 u368 u369 u370 u371 u372 u373 u374 u375 u376 : Value} {w Y : World} {S BB gI g n1 cI m cA i j : Nat} {D : CfgD} {I : List (List Alt)} {l : List Alt} {L : List LF} {y : LF} {p : LA} {what : Int} (h : CK w Y S BB gI g n1 cI m cA i j D I l L y p) (hw : u8k what) (h16 : what % 16 = 0) (hT : Tabs w)
    (K K2 : Act → World → Prop) (hK : ∀ a w', Code.wp Tryd.prog (restC code8) (Exit.then K2 (bodyPost Tryd.prog Tryd.f6 fun e w' => e = .returned (.bool true) ∧ Kept w w')) a w' → K a w') (hK2 : ∀ a w', Code.wp Tryd.prog code67 (bodyPost Tryd.prog Tryd.f6 fun e w' => e = .returned (.bool true) ∧ Kept w w') a w' → K2 a w') :
    Code.wp Tryd.prog (headC code8) (Exit.then K (Exit.then K2 (bodyPost Tryd.prog Tryd.f6 fun e w' => e = .returned (.bool true) ∧ Kept w w'))) ⟨#[u0, u1, .int .u8 what, u3, u4, u5, u6, .pointer (some ⟨BB, 0, none⟩), .int .i64 (i : Int), .int .i64 (j : Int), .pointer (some ⟨g, j * 9, none⟩), .int .i64 1, u12, u13, u14, u15, u16, u17, u18, u19, u20, u21, u22, u23, u24, u25, u26, u27, u28, u29, u30, u31, u32, u33, u34, u35, u36, u37, u38, u39, u40, u41, u42, u43, u44, u45, u46, u47, u48, u49, u50, u51, u52, u53, u54, u55, u56, u57, u58, u59, u60, u61, u62, u63, u64, u65, u66, u67, u68, u69, u70, u71, u72, u73, u74, u75, u76, u77, u78, u79, u80, u81, u82, u83, u84, u85, u86, u87, u88, u89, u90, u91, u92, u93, u94, u95, u96, u97, u98, u99, u100, u101, u102, u103, u104, u105, u106, u107, u108, u109, u110, u111, u112, u113, u114, u115, u116, u117, u118, u119, u120, u121, u122, u123, u124, u125, u126, u127, u128, u129, u130, u131, u132, u133, u134, u135, u136, u137, u138, u139, u140, u141, u142, u143, u144, u145, u146, u147, u148, u149, u150, u151, u152, u153, u154, u155, u156, u157, u158, u159, u160, u161, u162, u163, u164, u165, u166, u167, u168, u169, u170, u171, u172, u173, u174, u175, u176, u177, u178, u179, u180, u181, u182, u183, u184, u185, u186, u187, u188, u189, u190, u191, u192, u193, u194, u195, u196, u197, u198, u199, u200, u201, u202, u203, u204, u205, u206, u207, u208, u209, u210, u211, u212, u213, u214, u215, u216, u217, u218, u219, u220, u221, u222, u223, u224, u225, u226, u227, u228, u229, u230, u231, u232, u233, u234, u235, u236, u237, u238, u239, u240, u241, u242, u243, u244, u245, u246, u247, u248, u249, u250, u251, u252, u253, u254, u255, u256, u257, u258, u259, u260, u261, u262, u263, u264, u265, u266, u267, u268, u269, u270, u271, u272, u273, u274, u275, u276, u277, u278, u279, u280, u281, u282, u283, u284, u285, u286, u287, u288, u289, u290, u291, u292, u293, u294, u295, u296, u297, u298, u299, u300, u301, u302, u303, u304, u305, u306, u307, u308, u309, u310, u311, u312, u313, u314, u315, u316, u317, u318, u319, u320, u321, u322, u323, u324, u325, u326, u327, u328, u329, u330, u331, u332, u333, u334, u335, u336, u337, u338, u339, u340, u341, u342, u343, u344, u345, u346, u347, u348, u349, u350, u351, u352, u353, u354, u355, u356, u357, u358, u359, u360, u361, u362, u363, u364, u365, u366, u367, u368, u369, u370, u371, u372, u373, u374, u375, u376], []⟩ Y := by
  obtain ⟨hw0, hw1⟩ := hw
  have hm16 : what.tmod 16 = 0 := by rw [Int.tmod_eq_emod_of_nonneg hw0]; exact h16
  obtain ⟨q1, q2, q3, q4, q5, q6, q7, q8⟩ := h.nums
  have qs := h.size
  have qd := h.ok.1
  have hB : Y.heap[BB]? = some (.cells #[.int .u16 D.total, .int .u8 D.ifs, .int .u8 D.number, .int .u8 D.text, .bool D.self, .bool D.wake, .int .u8 D.power, .slice (some ⟨gI, 0, none⟩) n1 cI] 32 (0, 0)) := h.mid.box
  obtain ⟨cur, hA⟩ := h.heapA
  have lB := heap_lt hB
  have lg := heap_lt hA
  have hk := h.mid.kept
  have hkS := hk.size
  have H := hide h
  have HT := hide hT
  have HB := hide hB
  have HA := hide hA
  have Hq := hide (⟨q1, q2, q3, q4, q5, q6, q7, q8, qs, qd⟩ : D.total = (sizeS ⟨D, I⟩ : Int) ∧ D.ifs = (n1 : Int) ∧ p.a.d.num = (i : Int) ∧ p.a.d.alt = (j : Int) ∧ p.a.d.eps = (p.a.eps.length : Int) ∧ i < 6 ∧ j < 16 ∧ p.a.eps.length ≤ 30 ∧ sizeS ⟨D, I⟩ ≤ 3129 ∧ D.ok)
  clear h hT hB hA h16 q1 q2 q3 q4 q5 q6 q7 q8 qs qd hk hkS
  conv => arg 2; whnf
  conv at hK => enter [a, w', 1, 2]; whnf
  conv at hK2 => enter [a, w', 1, 2]; whnf
  go_upto_region 67 with (fail)
  obtain ⟨q1, q2, q3, q4, q5, q6, q7, q8, qs, qd⟩ := Hq.out
  have hE := H.out.endBox (H.out.mid) qd
  refine chk_tail hE.kept hE.box hE.cfg hE.len (by exact Nat.le_trans qs (by decide)) (checkC_iff H.out.chk) HT.out _ ?_
  assumption
set_option maxRecDepth 1000000 in
set_option maxHeartbeats 16000000 in
theorem chk_1 {u0 u1 u3 u4 u5 u6 u12 u13 u14 u15 u16 u17 u18 u19 u20 u21 u22 u23 u24 u25 u26 u27 u28 u29 u30 u31 u32 u33 u34 u35 u36 u37 u38 u39 u40 u41 u42 u43 u44 u45 u46 u47 u48 u49 u50 u51 u52 u53 u54 u55 u56 u57 u58 u59 u60 u61 u62 u63 u64 u65 u66 u67 u68 u69 u70 u71 u72 u73 u74 u75 u76 u77 u78 u79 u80 u81 u82 u83 u84 u85 u86 u87 u88 u89 u90 u91 u92 u93 u94 u95 u96 u97 u98 u99 u100 u101 u102 u103 u104 u105 u106 u107 u108 u109 u110 u111 u112 u113 u114 u115 u116 u117 u118 u119 u120 u121 u122 u123 u124 u125 u126 u127 u128 u129 u130 u131 u132 u133 u134 u135 u136 u137 u138 u139 u140 u141 u142 u143 u144 u145 u146 u147 u148 u149 u150 u151 u152 u153 u154 u155 u156 u157 u158 u159 u160 u161 u162 u163 u164 u165 u166 u167 u168 u169 u170 u171 u172 u173 u174 u175 u176 u177 u178 u179 u180 u181 u182 u183 u184 u185 u186 u187 u188 u189 u190 u191 u192 u193 u194 u195 u196 u197 u198 u199 u200 u201 u202 u203 u204 u205 u206 u207 u208 u209 u210 u211 u212 u213 u214 u215 u216 u217 u218 u219 u220 u221 u222 u223 u224 u225 u226 u227 u228 u229 u230 u231 u232 u233 u234 u235 u236 u237 u238 u239 u240 u241 u242 u243 u244 u245 u246 u247 u248 u249 u250 u251 u252 u253 u254 u255 u256 u257 u258 u259 u260 u261 u262 u263 u264 u265 u266 u267 u268 u269 u270 u271 u272 u273 u274 u275 u276 u277 u278 u279 u280 u281 u282 u283 u284 u285 u286 u287 u288 u289 u290 u291 u292 u293 u294 u295 u296 u297 u298 u299 u300 u301 u302 u303 u304 u305 u306 u307 u308 u309 u310 u311 u312 u313 u314 u315 u316 u317 u318 u319 u320 u321 u322 u323 u324 u325 u326 u327 u328 u329 u330 u331 u332 u333 u334 u335 u336 u337 u338 u339 u340 u341 u342 u343 u344 u345 u346 u347 u348 u349 u350 u351 u352 u353 u354 u355 u356 u357 u358 u359 u360 u361 u362 u363 u364 u365 u366 u367 u368 u369 u370 u371 u372 u373 u374 u375 u376 : Value} {w Y : World} {S BB gI g n1 cI m cA i j : Nat} {D : CfgD} {I : List (List Alt)} {l : List Alt} {L : List LF} {y : LF} {p : LA} {what : Int} (h : CK w Y S BB gI g n1 cI m cA i j D I l L y p) (hw : u8k what) (h16 : what % 16 = 1) (hT : Tabs w)
    (K K2 : Act → World → Prop) (hK : ∀ a w', Code.wp Tryd.prog (restC code8) (Exit.then K2 (bodyPost Tryd.prog Tryd.f6 fun e w' => e = .returned (.bool true) ∧ Kept w w')) a w' → K a w') (hK2 : ∀ a w', Code.wp Tryd.prog code67 (bodyPost Tryd.prog Tryd.f6 fun e w' => e = .returned (.bool true) ∧ Kept w w') a w' → K2 a w') :
    Code.wp Tryd.prog (headC code8) (Exit.then K (Exit.then K2 (bodyPost Tryd.prog Tryd.f6 fun e w' => e = .returned (.bool true) ∧ Kept w w'))) ⟨#[u0, u1, .int .u8 what, u3, u4, u5, u6, .pointer (some ⟨BB, 0, none⟩), .int .i64 (i : Int), .int .i64 (j : Int), .pointer (some ⟨g, j * 9, none⟩), .int .i64 1, u12, u13, u14, u15, u16, u17, u18, u19, u20, u21, u22, u23, u24, u25, u26, u27, u28, u29, u30, u31, u32, u33, u34, u35, u36, u37, u38, u39, u40, u41, u42, u43, u44, u45, u46, u47, u48, u49, u50, u51, u52, u53, u54, u55, u56, u57, u58, u59, u60, u61, u62, u63, u64, u65, u66, u67, u68, u69, u70, u71, u72, u73, u74, u75, u76, u77, u78, u79, u80, u81, u82, u83, u84, u85, u86, u87, u88, u89, u90, u91, u92, u93, u94, u95, u96, u97, u98, u99, u100, u101, u102, u103, u104, u105, u106, u107, u108, u109, u110, u111, u112, u113, u114, u115, u116, u117, u118, u119, u120, u121, u122, u123, u124, u125, u126, u127, u128, u129, u130, u131, u132, u133, u134, u135, u136, u137, u138, u139, u140, u141, u142, u143, u144, u145, u146, u147, u148, u149, u150, u151, u152, u153, u154, u155, u156, u157, u158, u159, u160, u161, u162, u163, u164, u165, u166, u167, u168, u169, u170, u171, u172, u173, u174, u175, u176, u177, u178, u179, u180, u181, u182, u183, u184, u185, u186, u187, u188, u189, u190, u191, u192, u193, u194, u195, u196, u197, u198, u199, u200, u201, u202, u203, u204, u205, u206, u207, u208, u209, u210, u211, u212, u213, u214, u215, u216, u217, u218, u219, u220, u221, u222, u223, u224, u225, u226, u227, u228, u229, u230, u231, u232, u233, u234, u235, u236, u237, u238, u239, u240, u241, u242, u243, u244, u245, u246, u247, u248, u249, u250, u251, u252, u253, u254, u255, u256, u257, u258, u259, u260, u261, u262, u263, u264, u265, u266, u267, u268, u269, u270, u271, u272, u273, u274, u275, u276, u277, u278, u279, u280, u281, u282, u283, u284, u285, u286, u287, u288, u289, u290, u291, u292, u293, u294, u295, u296, u297, u298, u299, u300, u301, u302, u303, u304, u305, u306, u307, u308, u309, u310, u311, u312, u313, u314, u315, u316, u317, u318, u319, u320, u321, u322, u323, u324, u325, u326, u327, u328, u329, u330, u331, u332, u333, u334, u335, u336, u337, u338, u339, u340, u341, u342, u343, u344, u345, u346, u347, u348, u349, u350, u351, u352, u353, u354, u355, u356, u357, u358, u359, u360, u361, u362, u363, u364, u365, u366, u367, u368, u369, u370, u371, u372, u373, u374, u375, u376], []⟩ Y := by
  obtain ⟨hw0, hw1⟩ := hw
  have hm16 : what.tmod 16 = 1 := by rw [Int.tmod_eq_emod_of_nonneg hw0]; exact h16
  obtain ⟨q1, q2, q3, q4, q5, q6, q7, q8⟩ := h.nums
  have qs := h.size
  have qd := h.ok.1
  have hB : Y.heap[BB]? = some (.cells #[.int .u16 D.total, .int .u8 D.ifs, .int .u8 D.number, .int .u8 D.text, .bool D.self, .bool D.wake, .int .u8 D.power, .slice (some ⟨gI, 0, none⟩) n1 cI] 32 (0, 0)) := h.mid.box
  obtain ⟨cur, hA⟩ := h.heapA
  have lB := heap_lt hB
  have lg := heap_lt hA
  have hk := h.mid.kept
  have hkS := hk.size
  have b0 : Y.cell? ⟨BB, 0, none⟩ = some (.int .u16 D.total) := cell_heap hB (o := 0) rfl
  have f0 := frozen_heap hB (o := 0)
  have hw16 : IntKind.u16.wrap what = what := wrap16 hw0 (by omega)
  have hw17 : IntKind.u16.wrap (1 + what) = 1 + what := wrap16 (by omega) (by omega)
  have hw18 : IntKind.u16.wrap (D.total + (1 + what)) = D.total + (1 + what) := wrap16 (by omega) (by omega)
  have H := hide h
  have HT := hide hT
  have HB := hide hB
  have HA := hide hA
  have Hq := hide (⟨q1, q2, q3, q4, q5, q6, q7, q8, qs, qd⟩ : D.total = (sizeS ⟨D, I⟩ : Int) ∧ D.ifs = (n1 : Int) ∧ p.a.d.num = (i : Int) ∧ p.a.d.alt = (j : Int) ∧ p.a.d.eps = (p.a.eps.length : Int) ∧ i < 6 ∧ j < 16 ∧ p.a.eps.length ≤ 30 ∧ sizeS ⟨D, I⟩ ≤ 3129 ∧ D.ok)
  clear h hT hB hA h16 q1 q2 q3 q4 q5 q6 q7 q8 qs qd hk hkS
  conv => arg 2; whnf
  conv at hK => enter [a, w', 1, 2]; whnf
  conv at hK2 => enter [a, w', 1, 2]; whnf
  go_upto_region 67 with (fail)
  obtain ⟨q1, q2, q3, q4, q5, q6, q7, q8, qs, qd⟩ := Hq.out
  have hE := H.out.endBox (D' := { D with total := D.total + (1 + what) }) (H.out.mid.setBox (D' := { D with total := D.total + (1 + what) }) (o := 0) (u := .int .u16 (D.total + (1 + what))) (by decide) rfl) (by obtain ⟨o1, o2, o3, o4, o5⟩ := qd; exact ⟨(by unfold u16k; simp only; omega), o2, o3, o4, o5⟩)
  refine chk_tail hE.kept hE.box hE.cfg hE.len (by exact Nat.le_trans qs (by decide)) (bad_total H.out.chk (by omega)) HT.out _ ?_
  assumption
set_option maxRecDepth 1000000 in
set_option maxHeartbeats 16000000 in
theorem chk_2 {u0 u1 u3 u4 u5 u6 u12 u13 u14 u15 u16 u17 u18 u19 u20 u21 u22 u23 u24 u25 u26 u27 u28 u29 u30 u31 u32 u33 u34 u35 u36 u37 u38 u39 u40 u41 u42 u43 u44 u45 u46 u47 u48 u49 u50 u51 u52 u53 u54 u55 u56 u57 u58 u59 u60 u61 u62 u63 u64 u65 u66 u67 u68 u69 u70 u71 u72 u73 u74 u75 u76 u77 u78 u79 u80 u81 u82 u83 u84 u85 u86 u87 u88 u89 u90 u91 u92 u93 u94 u95 u96 u97 u98 u99 u100 u101 u102 u103 u104 u105 u106 u107 u108 u109 u110 u111 u112 u113 u114 u115 u116 u117 u118 u119 u120 u121 u122 u123 u124 u125 u126 u127 u128 u129 u130 u131 u132 u133 u134 u135 u136 u137 u138 u139 u140 u141 u142 u143 u144 u145 u146 u147 u148 u149 u150 u151 u152 u153 u154 u155 u156 u157 u158 u159 u160 u161 u162 u163 u164 u165 u166 u167 u168 u169 u170 u171 u172 u173 u174 u175 u176 u177 u178 u179 u180 u181 u182 u183 u184 u185 u186 u187 u188 u189 u190 u191 u192 u193 u194 u195 u196 u197 u198 u199 u200 u201 u202 u203 u204 u205 u206 u207 u208 u209 u210 u211 u212 u213 u214 u215 u216 u217 u218 u219 u220 u221 u222 u223 u224 u225 u226 u227 u228 u229 u230 u231 u232 u233 u234 u235 u236 u237 u238 u239 u240 u241 u242 u243 u244 u245 u246 u247 u248 u249 u250 u251 u252 u253 u254 u255 u256 u257 u258 u259 u260 u261 u262 u263 u264 u265 u266 u267 u268 u269 u270 u271 u272 u273 u274 u275 u276 u277 u278 u279 u280 u281 u282 u283 u284 u285 u286 u287 u288 u289 u290 u291 u292 u293 u294 u295 u296 u297 u298 u299 u300 u301 u302 u303 u304 u305 u306 u307 u308 u309 u310 u311 u312 u313 u314 u315 u316 u317 u318 u319 u320 u321 u322 u323 u324 u325 u326 u327 u328 u329 u330 u331 u332 u333 u334 u335 u336 u337 u338 u339 u340 u341 u342 u343 u344 u345 u346 u347 u348 u349 u350 u351 u352 u353 u354 u355 u356 u357 u358 u359 u360 u361 u362 u363 u364 u365 u366 u367 u368 u369 u370 u371 u372 u373 u374 u375 u376 : Value} {w Y : World} {S BB gI g n1 cI m cA i j : Nat} {D : CfgD} {I : List (List Alt)} {l : List Alt} {L : List LF} {y : LF} {p : LA} {what : Int} (h : CK w Y S BB gI g n1 cI m cA i j D I l L y p) (hw : u8k what) (h16 : what % 16 = 2) (hT : Tabs w)
    (K K2 : Act → World → Prop) (hK : ∀ a w', Code.wp Tryd.prog (restC code8) (Exit.then K2 (bodyPost Tryd.prog Tryd.f6 fun e w' => e = .returned (.bool true) ∧ Kept w w')) a w' → K a w') (hK2 : ∀ a w', Code.wp Tryd.prog code67 (bodyPost Tryd.prog Tryd.f6 fun e w' => e = .returned (.bool true) ∧ Kept w w') a w' → K2 a w') :
    Code.wp Tryd.prog (headC code8) (Exit.then K (Exit.then K2 (bodyPost Tryd.prog Tryd.f6 fun e w' => e = .returned (.bool true) ∧ Kept w w'))) ⟨#[u0, u1, .int .u8 what, u3, u4, u5, u6, .pointer (some ⟨BB, 0, none⟩), .int .i64 (i : Int), .int .i64 (j : Int), .pointer (some ⟨g, j * 9, none⟩), .int .i64 1, u12, u13, u14, u15, u16, u17, u18, u19, u20, u21, u22, u23, u24, u25, u26, u27, u28, u29, u30, u31, u32, u33, u34, u35, u36, u37, u38, u39, u40, u41, u42, u43, u44, u45, u46, u47, u48, u49, u50, u51, u52, u53, u54, u55, u56, u57, u58, u59, u60, u61, u62, u63, u64, u65, u66, u67, u68, u69, u70, u71, u72, u73, u74, u75, u76, u77, u78, u79, u80, u81, u82, u83, u84, u85, u86, u87, u88, u89, u90, u91, u92, u93, u94, u95, u96, u97, u98, u99, u100, u101, u102, u103, u104, u105, u106, u107, u108, u109, u110, u111, u112, u113, u114, u115, u116, u117, u118, u119, u120, u121, u122, u123, u124, u125, u126, u127, u128, u129, u130, u131, u132, u133, u134, u135, u136, u137, u138, u139, u140, u141, u142, u143, u144, u145, u146, u147, u148, u149, u150, u151, u152, u153, u154, u155, u156, u157, u158, u159, u160, u161, u162, u163, u164, u165, u166, u167, u168, u169, u170, u171, u172, u173, u174, u175, u176, u177, u178, u179, u180, u181, u182, u183, u184, u185, u186, u187, u188, u189, u190, u191, u192, u193, u194, u195, u196, u197, u198, u199, u200, u201, u202, u203, u204, u205, u206, u207, u208, u209, u210, u211, u212, u213, u214, u215, u216, u217, u218, u219, u220, u221, u222, u223, u224, u225, u226, u227, u228, u229, u230, u231, u232, u233, u234, u235, u236, u237, u238, u239, u240, u241, u242, u243, u244, u245, u246, u247, u248, u249, u250, u251, u252, u253, u254, u255, u256, u257, u258, u259, u260, u261, u262, u263, u264, u265, u266, u267, u268, u269, u270, u271, u272, u273, u274, u275, u276, u277, u278, u279, u280, u281, u282, u283, u284, u285, u286, u287, u288, u289, u290, u291, u292, u293, u294, u295, u296, u297, u298, u299, u300, u301, u302, u303, u304, u305, u306, u307, u308, u309, u310, u311, u312, u313, u314, u315, u316, u317, u318, u319, u320, u321, u322, u323, u324, u325, u326, u327, u328, u329, u330, u331, u332, u333, u334, u335, u336, u337, u338, u339, u340, u341, u342, u343, u344, u345, u346, u347, u348, u349, u350, u351, u352, u353, u354, u355, u356, u357, u358, u359, u360, u361, u362, u363, u364, u365, u366, u367, u368, u369, u370, u371, u372, u373, u374, u375, u376], []⟩ Y := by
  obtain ⟨hw0, hw1⟩ := hw
  have hm16 : what.tmod 16 = 2 := by rw [Int.tmod_eq_emod_of_nonneg hw0]; exact h16
  obtain ⟨q1, q2, q3, q4, q5, q6, q7, q8⟩ := h.nums
  have qs := h.size
  have qd := h.ok.1
  have hB : Y.heap[BB]? = some (.cells #[.int .u16 D.total, .int .u8 D.ifs, .int .u8 D.number, .int .u8 D.text, .bool D.self, .bool D.wake, .int .u8 D.power, .slice (some ⟨gI, 0, none⟩) n1 cI] 32 (0, 0)) := h.mid.box
  obtain ⟨cur, hA⟩ := h.heapA
  have lB := heap_lt hB
  have lg := heap_lt hA
  have hk := h.mid.kept
  have hkS := hk.size
  have b1 : Y.cell? ⟨BB, 1, none⟩ = some (.int .u8 D.ifs) := cell_heap hB (o := 1) rfl
  have f1 := frozen_heap hB (o := 1)
  have hw18 : IntKind.u8.wrap (D.ifs + 1) = D.ifs + 1 := wrap8 (by have := h.many; omega) (by have := h.many; omega)
  have H := hide h
  have HT := hide hT
  have HB := hide hB
  have HA := hide hA
  have Hq := hide (⟨q1, q2, q3, q4, q5, q6, q7, q8, qs, qd⟩ : D.total = (sizeS ⟨D, I⟩ : Int) ∧ D.ifs = (n1 : Int) ∧ p.a.d.num = (i : Int) ∧ p.a.d.alt = (j : Int) ∧ p.a.d.eps = (p.a.eps.length : Int) ∧ i < 6 ∧ j < 16 ∧ p.a.eps.length ≤ 30 ∧ sizeS ⟨D, I⟩ ≤ 3129 ∧ D.ok)
  clear h hT hB hA h16 q1 q2 q3 q4 q5 q6 q7 q8 qs qd hk hkS
  conv => arg 2; whnf
  conv at hK => enter [a, w', 1, 2]; whnf
  conv at hK2 => enter [a, w', 1, 2]; whnf
  go_upto_region 67 with (fail)
  obtain ⟨q1, q2, q3, q4, q5, q6, q7, q8, qs, qd⟩ := Hq.out
  have hE := H.out.endBox (D' := { D with ifs := D.ifs + 1 }) (H.out.mid.setBox (D' := { D with ifs := D.ifs + 1 }) (o := 1) (u := .int .u8 (D.ifs + 1)) (by decide) rfl) (by obtain ⟨o1, o2, o3, o4, o5⟩ := qd; exact ⟨o1, (by have := H.out.many; unfold u8k; simp only; omega), o3, o4, o5⟩)
  refine chk_tail hE.kept hE.box hE.cfg hE.len (by exact Nat.le_trans qs (by decide)) (bad_ifs H.out.chk (by omega)) HT.out _ ?_
  assumption
set_option maxRecDepth 1000000 in
set_option maxHeartbeats 16000000 in
theorem chk_3 {u0 u1 u3 u4 u5 u6 u12 u13 u14 u15 u16 u17 u18 u19 u20 u21 u22 u23 u24 u25 u26 u27 u28 u29 u30 u31 u32 u33 u34 u35 u36 u37 u38 u39 u40 u41 u42 u43 u44 u45 u46 u47 u48 u49 u50 u51 u52 u53 u54 u55 u56 u57 u58 u59 u60 u61 u62 u63 u64 u65 u66 u67 u68 u69 u70 u71 u72 u73 u74 u75 u76 u77 u78 u79 u80 u81 u82 u83 u84 u85 u86 u87 u88 u89 u90 u91 u92 u93 u94 u95 u96 u97 u98 u99 u100 u101 u102 u103 u104 u105 u106 u107 u108 u109 u110 u111 u112 u113 u114 u115 u116 u117 u118 u119 u120 u121 u122 u123 u124 u125 u126 u127 u128 u129 u130 u131 u132 u133 u134 u135 u136 u137 u138 u139 u140 u141 u142 u143 u144 u145 u146 u147 u148 u149 u150 u151 u152 u153 u154 u155 u156 u157 u158 u159 u160 u161 u162 u163 u164 u165 u166 u167 u168 u169 u170 u171 u172 u173 u174 u175 u176 u177 u178 u179 u180 u181 u182 u183 u184 u185 u186 u187 u188 u189 u190 u191 u192 u193 u194 u195 u196 u197 u198 u199 u200 u201 u202 u203 u204 u205 u206 u207 u208 u209 u210 u211 u212 u213 u214 u215 u216 u217 u218 u219 u220 u221 u222 u223 u224 u225 u226 u227 u228 u229 u230 u231 u232 u233 u234 u235 u236 u237 u238 u239 u240 u241 u242 u243 u244 u245 u246 u247 u248 u249 u250 u251 u252 u253 u254 u255 u256 u257 u258 u259 u260 u261 u262 u263 u264 u265 u266 u267 u268 u269 u270 u271 u272 u273 u274 u275 u276 u277 u278 u279 u280 u281 u282 u283 u284 u285 u286 u287 u288 u289 u290 u291 u292 u293 u294 u295 u296 u297 u298 u299 u300 u301 u302 u303 u304 u305 u306 u307 u308 u309 u310 u311 u312 u313 u314 u315 u316 u317 u318 u319 u320 u321 u322 u323 u324 u325 u326 u327 u328 u329 u330 u331 u332 u333 u334 u335 u336 u337 u338 u339 u340 u341 u342 u343 u344 u345 u346 u347 u348 u349 u350 u351 u352 u353 u354 u355 u356 u357 u358 u359 u360 u361 u362 u363 u364 u365 u366 u367 u368 u369 u370 u371 u372 u373 u374 u375 u376 : Value} {w Y : World} {S BB gI g n1 cI m cA i j : Nat} {D : CfgD} {I : List (List Alt)} {l : List Alt} {L : List LF} {y : LF} {p : LA} {what : Int} (h : CK w Y S BB gI g n1 cI m cA i j D I l L y p) (hw : u8k what) (h16 : what % 16 = 3) (hT : Tabs w)
    (K K2 : Act → World → Prop) (hK : ∀ a w', Code.wp Tryd.prog (restC code8) (Exit.then K2 (bodyPost Tryd.prog Tryd.f6 fun e w' => e = .returned (.bool true) ∧ Kept w w')) a w' → K a w') (hK2 : ∀ a w', Code.wp Tryd.prog code67 (bodyPost Tryd.prog Tryd.f6 fun e w' => e = .returned (.bool true) ∧ Kept w w') a w' → K2 a w') :
    Code.wp Tryd.prog (headC code8) (Exit.then K (Exit.then K2 (bodyPost Tryd.prog Tryd.f6 fun e w' => e = .returned (.bool true) ∧ Kept w w'))) ⟨#[u0, u1, .int .u8 what, u3, u4, u5, u6, .pointer (some ⟨BB, 0, none⟩), .int .i64 (i : Int), .int .i64 (j : Int), .pointer (some ⟨g, j * 9, none⟩), .int .i64 1, u12, u13, u14, u15, u16, u17, u18, u19, u20, u21, u22, u23, u24, u25, u26, u27, u28, u29, u30, u31, u32, u33, u34, u35, u36, u37, u38, u39, u40, u41, u42, u43, u44, u45, u46, u47, u48, u49, u50, u51, u52, u53, u54, u55, u56, u57, u58, u59, u60, u61, u62, u63, u64, u65, u66, u67, u68, u69, u70, u71, u72, u73, u74, u75, u76, u77, u78, u79, u80, u81, u82, u83, u84, u85, u86, u87, u88, u89, u90, u91, u92, u93, u94, u95, u96, u97, u98, u99, u100, u101, u102, u103, u104, u105, u106, u107, u108, u109, u110, u111, u112, u113, u114, u115, u116, u117, u118, u119, u120, u121, u122, u123, u124, u125, u126, u127, u128, u129, u130, u131, u132, u133, u134, u135, u136, u137, u138, u139, u140, u141, u142, u143, u144, u145, u146, u147, u148, u149, u150, u151, u152, u153, u154, u155, u156, u157, u158, u159, u160, u161, u162, u163, u164, u165, u166, u167, u168, u169, u170, u171, u172, u173, u174, u175, u176, u177, u178, u179, u180, u181, u182, u183, u184, u185, u186, u187, u188, u189, u190, u191, u192, u193, u194, u195, u196, u197, u198, u199, u200, u201, u202, u203, u204, u205, u206, u207, u208, u209, u210, u211, u212, u213, u214, u215, u216, u217, u218, u219, u220, u221, u222, u223, u224, u225, u226, u227, u228, u229, u230, u231, u232, u233, u234, u235, u236, u237, u238, u239, u240, u241, u242, u243, u244, u245, u246, u247, u248, u249, u250, u251, u252, u253, u254, u255, u256, u257, u258, u259, u260, u261, u262, u263, u264, u265, u266, u267, u268, u269, u270, u271, u272, u273, u274, u275, u276, u277, u278, u279, u280, u281, u282, u283, u284, u285, u286, u287, u288, u289, u290, u291, u292, u293, u294, u295, u296, u297, u298, u299, u300, u301, u302, u303, u304, u305, u306, u307, u308, u309, u310, u311, u312, u313, u314, u315, u316, u317, u318, u319, u320, u321, u322, u323, u324, u325, u326, u327, u328, u329, u330, u331, u332, u333, u334, u335, u336, u337, u338, u339, u340, u341, u342, u343, u344, u345, u346, u347, u348, u349, u350, u351, u352, u353, u354, u355, u356, u357, u358, u359, u360, u361, u362, u363, u364, u365, u366, u367, u368, u369, u370, u371, u372, u373, u374, u375, u376], []⟩ Y := by
  obtain ⟨hw0, hw1⟩ := hw
  have hm16 : what.tmod 16 = 3 := by rw [Int.tmod_eq_emod_of_nonneg hw0]; exact h16
  obtain ⟨q1, q2, q3, q4, q5, q6, q7, q8⟩ := h.nums
  have qs := h.size
  have qd := h.ok.1
  have hB : Y.heap[BB]? = some (.cells #[.int .u16 D.total, .int .u8 D.ifs, .int .u8 D.number, .int .u8 D.text, .bool D.self, .bool D.wake, .int .u8 D.power, .slice (some ⟨gI, 0, none⟩) n1 cI] 32 (0, 0)) := h.mid.box
  obtain ⟨cur, hA⟩ := h.heapA
  have lB := heap_lt hB
  have lg := heap_lt hA
  have hk := h.mid.kept
  have hkS := hk.size
  have b2 : Y.cell? ⟨BB, 2, none⟩ = some (.int .u8 D.number) := cell_heap hB (o := 2) rfl
  have f2 := frozen_heap hB (o := 2)
  have H := hide h
  have HT := hide hT
  have HB := hide hB
  have HA := hide hA
  have Hq := hide (⟨q1, q2, q3, q4, q5, q6, q7, q8, qs, qd⟩ : D.total = (sizeS ⟨D, I⟩ : Int) ∧ D.ifs = (n1 : Int) ∧ p.a.d.num = (i : Int) ∧ p.a.d.alt = (j : Int) ∧ p.a.d.eps = (p.a.eps.length : Int) ∧ i < 6 ∧ j < 16 ∧ p.a.eps.length ≤ 30 ∧ sizeS ⟨D, I⟩ ≤ 3129 ∧ D.ok)
  clear h hT hB hA h16 q1 q2 q3 q4 q5 q6 q7 q8 qs qd hk hkS
  conv => arg 2; whnf
  conv at hK => enter [a, w', 1, 2]; whnf
  conv at hK2 => enter [a, w', 1, 2]; whnf
  go_upto_region 67 with (fail)
  obtain ⟨q1, q2, q3, q4, q5, q6, q7, q8, qs, qd⟩ := Hq.out
  have hE := H.out.endBox (D' := { D with number := 0 }) (H.out.mid.setBox (D' := { D with number := 0 }) (o := 2) (u := .int .u8 (0)) (by decide) rfl) (by obtain ⟨o1, o2, o3, o4, o5⟩ := qd; exact ⟨o1, o2, (by unfold u8k; simp), o4, o5⟩)
  refine chk_tail hE.kept hE.box hE.cfg hE.len (by exact Nat.le_trans qs (by decide)) (bad_number H.out.chk) HT.out _ ?_
  assumption
set_option maxRecDepth 1000000 in
set_option maxHeartbeats 16000000 in
theorem chk_4 {u0 u1 u3 u4 u5 u6 u12 u13 u14 u15 u16 u17 u18 u19 u20 u21 u22 u23 u24 u25 u26 u27 u28 u29 u30 u31 u32 u33 u34 u35 u36 u37 u38 u39 u40 u41 u42 u43 u44 u45 u46 u47 u48 u49 u50 u51 u52 u53 u54 u55 u56 u57 u58 u59 u60 u61 u62 u63 u64 u65 u66 u67 u68 u69 u70 u71 u72 u73 u74 u75 u76 u77 u78 u79 u80 u81 u82 u83 u84 u85 u86 u87 u88 u89 u90 u91 u92 u93 u94 u95 u96 u97 u98 u99 u100 u101 u102 u103 u104 u105 u106 u107 u108 u109 u110 u111 u112 u113 u114 u115 u116 u117 u118 u119 u120 u121 u122 u123 u124 u125 u126 u127 u128 u129 u130 u131 u132 u133 u134 u135 u136 u137 u138 u139 u140 u141 u142 u143 u144 u145 u146 u147 u148 u149 u150 u151 u152 u153 u154 u155 u156 u157 u158 u159 u160 u161 u162 u163 u164 u165 u166 u167 u168 u169 u170 u171 u172 u173 u174 u175 u176 u177 u178 u179 u180 u181 u182 u183 u184 u185 u186 u187 u188 u189 u190 u191 u192 u193 u194 u195 u196 u197 u198 u199 u200 u201 u202 u203 u204 u205 u206 u207 u208 u209 u210 u211 u212 u213 u214 u215 u216 u217 u218 u219 u220 u221 u222 u223 u224 u225 u226 u227 u228 u229 u230 u231 u232 u233 u234 u235 u236 u237 u238 u239 u240 u241 u242 u243 u244 u245 u246 u247 u248 u249 u250 u251 u252 u253 u254 u255 u256 u257 u258 u259 u260 u261 u262 u263 u264 u265 u266 u267 u268 u269 u270 u271 u272 u273 u274 u275 u276 u277 u278 u279 u280 u281 u282 u283 u284 u285 u286 u287 u288 u289 u290 u291 u292 u293 u294 u295 u296 u297 u298 u299 u300 u301 u302 u303 u304 u305 u306 u307 u308 u309 u310 u311 u312 u313 u314 u315 u316 u317 u318 u319 u320 u321 u322 u323 u324 u325 u326 u327 u328 u329 u330 u331 u332 u333 u334 u335 u336 u337 u338 u339 u340 u341 u342 u343 u344 u345 u346 u347 u348 u349 u350 u351 u352 u353 u354 u355 u356 u357 u358 u359 u360 u361 u362 u363 u364 u365 u366 u367 u368 u369 u370 u371 u372 u373 u374 u375 u376 : Value} {w Y : World} {S BB gI g n1 cI m cA i j : Nat} {D : CfgD} {I : List (List Alt)} {l : List Alt} {L : List LF} {y : LF} {p : LA} {what : Int} (h : CK w Y S BB gI g n1 cI m cA i j D I l L y p) (hw : u8k what) (h16 : what % 16 = 4) (hT : Tabs w)
    (K K2 : Act → World → Prop) (hK : ∀ a w', Code.wp Tryd.prog (restC code8) (Exit.then K2 (bodyPost Tryd.prog Tryd.f6 fun e w' => e = .returned (.bool true) ∧ Kept w w')) a w' → K a w') (hK2 : ∀ a w', Code.wp Tryd.prog code67 (bodyPost Tryd.prog Tryd.f6 fun e w' => e = .returned (.bool true) ∧ Kept w w') a w' → K2 a w') :
    Code.wp Tryd.prog (headC code8) (Exit.then K (Exit.then K2 (bodyPost Tryd.prog Tryd.f6 fun e w' => e = .returned (.bool true) ∧ Kept w w'))) ⟨#[u0, u1, .int .u8 what, u3, u4, u5, u6, .pointer (some ⟨BB, 0, none⟩), .int .i64 (i : Int), .int .i64 (j : Int), .pointer (some ⟨g, j * 9, none⟩), .int .i64 1, u12, u13, u14, u15, u16, u17, u18, u19, u20, u21, u22, u23, u24, u25, u26, u27, u28, u29, u30, u31, u32, u33, u34, u35, u36, u37, u38, u39, u40, u41, u42, u43, u44, u45, u46, u47, u48, u49, u50, u51, u52, u53, u54, u55, u56, u57, u58, u59, u60, u61, u62, u63, u64, u65, u66, u67, u68, u69, u70, u71, u72, u73, u74, u75, u76, u77, u78, u79, u80, u81, u82, u83, u84, u85, u86, u87, u88, u89, u90, u91, u92, u93, u94, u95, u96, u97, u98, u99, u100, u101, u102, u103, u104, u105, u106, u107, u108, u109, u110, u111, u112, u113, u114, u115, u116, u117, u118, u119, u120, u121, u122, u123, u124, u125, u126, u127, u128, u129, u130, u131, u132, u133, u134, u135, u136, u137, u138, u139, u140, u141, u142, u143, u144, u145, u146, u147, u148, u149, u150, u151, u152, u153, u154, u155, u156, u157, u158, u159, u160, u161, u162, u163, u164, u165, u166, u167, u168, u169, u170, u171, u172, u173, u174, u175, u176, u177, u178, u179, u180, u181, u182, u183, u184, u185, u186, u187, u188, u189, u190, u191, u192, u193, u194, u195, u196, u197, u198, u199, u200, u201, u202, u203, u204, u205, u206, u207, u208, u209, u210, u211, u212, u213, u214, u215, u216, u217, u218, u219, u220, u221, u222, u223, u224, u225, u226, u227, u228, u229, u230, u231, u232, u233, u234, u235, u236, u237, u238, u239, u240, u241, u242, u243, u244, u245, u246, u247, u248, u249, u250, u251, u252, u253, u254, u255, u256, u257, u258, u259, u260, u261, u262, u263, u264, u265, u266, u267, u268, u269, u270, u271, u272, u273, u274, u275, u276, u277, u278, u279, u280, u281, u282, u283, u284, u285, u286, u287, u288, u289, u290, u291, u292, u293, u294, u295, u296, u297, u298, u299, u300, u301, u302, u303, u304, u305, u306, u307, u308, u309, u310, u311, u312, u313, u314, u315, u316, u317, u318, u319, u320, u321, u322, u323, u324, u325, u326, u327, u328, u329, u330, u331, u332, u333, u334, u335, u336, u337, u338, u339, u340, u341, u342, u343, u344, u345, u346, u347, u348, u349, u350, u351, u352, u353, u354, u355, u356, u357, u358, u359, u360, u361, u362, u363, u364, u365, u366, u367, u368, u369, u370, u371, u372, u373, u374, u375, u376], []⟩ Y := by
  obtain ⟨hw0, hw1⟩ := hw
  have hm16 : what.tmod 16 = 4 := by rw [Int.tmod_eq_emod_of_nonneg hw0]; exact h16
  obtain ⟨q1, q2, q3, q4, q5, q6, q7, q8⟩ := h.nums
  have qs := h.size
  have qd := h.ok.1
  have hB : Y.heap[BB]? = some (.cells #[.int .u16 D.total, .int .u8 D.ifs, .int .u8 D.number, .int .u8 D.text, .bool D.self, .bool D.wake, .int .u8 D.power, .slice (some ⟨gI, 0, none⟩) n1 cI] 32 (0, 0)) := h.mid.box
  obtain ⟨cur, hA⟩ := h.heapA
  have lB := heap_lt hB
  have lg := heap_lt hA
  have hk := h.mid.kept
  have hkS := hk.size
  have b6 : Y.cell? ⟨BB, 6, none⟩ = some (.int .u8 D.power) := cell_heap hB (o := 6) rfl
  have f6 := frozen_heap hB (o := 6)
  have H := hide h
  have HT := hide hT
  have HB := hide hB
  have HA := hide hA
  have Hq := hide (⟨q1, q2, q3, q4, q5, q6, q7, q8, qs, qd⟩ : D.total = (sizeS ⟨D, I⟩ : Int) ∧ D.ifs = (n1 : Int) ∧ p.a.d.num = (i : Int) ∧ p.a.d.alt = (j : Int) ∧ p.a.d.eps = (p.a.eps.length : Int) ∧ i < 6 ∧ j < 16 ∧ p.a.eps.length ≤ 30 ∧ sizeS ⟨D, I⟩ ≤ 3129 ∧ D.ok)
  clear h hT hB hA h16 q1 q2 q3 q4 q5 q6 q7 q8 qs qd hk hkS
  conv => arg 2; whnf
  conv at hK => enter [a, w', 1, 2]; whnf
  conv at hK2 => enter [a, w', 1, 2]; whnf
  go_upto_region 67 with (fail)
  obtain ⟨q1, q2, q3, q4, q5, q6, q7, q8, qs, qd⟩ := Hq.out
  have hE := H.out.endBox (D' := { D with power := 251 }) (H.out.mid.setBox (D' := { D with power := 251 }) (o := 6) (u := .int .u8 (251)) (by decide) rfl) (by obtain ⟨o1, o2, o3, o4, o5⟩ := qd; exact ⟨o1, o2, o3, o4, (by unfold u8k; simp)⟩)
  refine chk_tail hE.kept hE.box hE.cfg hE.len (by exact Nat.le_trans qs (by decide)) (bad_power H.out.chk) HT.out _ ?_
  assumption
end Go.Proofs.YtjgncofhobhjdaaDoor
/- The law Check: a number of a setting. Printed by gen_ve.py. -/
namespace Go.Proofs.YtjgncofhobhjdaaDoor
open Go.RowKit
attribute [local go_sem ↓] Go.wp_at_zero Go.wp_at_succ

set_option maxRecDepth 1000000 in
set_option maxHeartbeats 16000000 in
theorem chk_5 {u0 u1 u3 u4 u5 u6 u12 u13 u14 u15 u16 u17 u18 u19 u20 u21 u22 u23 u24 u25 u26 u27 u28 u29 u30 u31 u32 u33 u34 u35 u36 u37 u38 u39 u40 u41 u42 u43 u44 u45 u46 u47 u48 u49 u50 u51 u52 u53 u54 u55 u56 u57 u58 u59 u60 u61 u62 u63 u64 u65 u66 u67 u68 u69 u70 u71 u72 u73 u74 u75 u76 u77 u78 u79 u80 u81 u82 u83 u84 u85 u86 u87 u88 u89 u90 u91 u92 u93 u94 u95 u96 u97 u98 u99 u100 u101 u102 u103 u104 u105 u106 u107 u108 u109 u110 u111 u112 u113 u114 u115 u116 u117 u118 u119 u120 u121 u122 u123 u124 u125 u126 u127 u128 u129 u130 u131 u132 u133 u134 u135 u136 u137 u138 u139 u140 u141 u142 u143 u144 u145 u146 u147 u148 u149 u150 u151 u152 u153 u154 u155 u156 u157 u158 u159 u160 u161 u162 u163 u164 u165 u166 u167 u168 u169 u170 u171 u172 u173 u174 u175 u176 u177 u178 u179 u180 u181 u182 u183 u184 u185 u186 u187 u188 u189 u190 u191 u192 u193 u194 u195 u196 u197 u198 u199 u200 u201 u202 u203 u204 u205 u206 u207 u208 u209 u210 u211 u212 u213 u214 u215 u216 u217 u218 u219 u220 u221 u222 u223 u224 u225 u226 u227 u228 u229 u230 u231 u232 u233 u234 u235 u236 u237 u238 u239 u240 u241 u242 u243 u244 u245 u246 u247 u248 u249 u250 u251 u252 u253 u254 u255 u256 u257 u258 u259 u260 u261 u262 u263 u264 u265 u266 u267 u268 u269 u270 u271 u272 u273 u274 u275 u276 u277 u278 u279 u280 u281 u282 u283 u284 u285 u286 u287 u288 u289 u290 u291 u292 u293 u294 u295 u296 u297 u298 u299 u300 u301 u302 u303 u304 u305 u306 u307 u308 u309 u310 u311 u312 u313 u314 u315 u316 u317 u318 u319 u320 u321 u322 u323 u324 u325 u326 u327 u328 u329 u330 u331 u332 u333 u334 u335 u336 u337 u338 u339 u340 u341 u342 u343 u344 u345 u346 u347 u348 u349 u350 u351 u352 u353 u354 u355 u356 u357 u358 u359 u360 u361 u362 u363 u364 u365 u366 u367 u368 u369 u370 u371 u372 u373 u374 u375 u376 : Value} {w Y : World} {S BB gI g n1 cI m cA i j : Nat} {D : CfgD} {I : List (List Alt)} {l : List Alt} {L : List LF} {y : LF} {p : LA} {what : Int} (h : CK w Y S BB gI g n1 cI m cA i j D I l L y p) (hw : u8k what) (h16 : what % 16 = 5) (hT : Tabs w)
    (K K2 : Act → World → Prop) (hK : ∀ a w', Code.wp Tryd.prog (restC code8) (Exit.then K2 (bodyPost Tryd.prog Tryd.f6 fun e w' => e = .returned (.bool true) ∧ Kept w w')) a w' → K a w') (hK2 : ∀ a w', Code.wp Tryd.prog code67 (bodyPost Tryd.prog Tryd.f6 fun e w' => e = .returned (.bool true) ∧ Kept w w') a w' → K2 a w') :
    Code.wp Tryd.prog (headC code8) (Exit.then K (Exit.then K2 (bodyPost Tryd.prog Tryd.f6 fun e w' => e = .returned (.bool true) ∧ Kept w w'))) ⟨#[u0, u1, .int .u8 what, u3, u4, u5, u6, .pointer (some ⟨BB, 0, none⟩), .int .i64 (i : Int), .int .i64 (j : Int), .pointer (some ⟨g, j * 9, none⟩), .int .i64 1, u12, u13, u14, u15, u16, u17, u18, u19, u20, u21, u22, u23, u24, u25, u26, u27, u28, u29, u30, u31, u32, u33, u34, u35, u36, u37, u38, u39, u40, u41, u42, u43, u44, u45, u46, u47, u48, u49, u50, u51, u52, u53, u54, u55, u56, u57, u58, u59, u60, u61, u62, u63, u64, u65, u66, u67, u68, u69, u70, u71, u72, u73, u74, u75, u76, u77, u78, u79, u80, u81, u82, u83, u84, u85, u86, u87, u88, u89, u90, u91, u92, u93, u94, u95, u96, u97, u98, u99, u100, u101, u102, u103, u104, u105, u106, u107, u108, u109, u110, u111, u112, u113, u114, u115, u116, u117, u118, u119, u120, u121, u122, u123, u124, u125, u126, u127, u128, u129, u130, u131, u132, u133, u134, u135, u136, u137, u138, u139, u140, u141, u142, u143, u144, u145, u146, u147, u148, u149, u150, u151, u152, u153, u154, u155, u156, u157, u158, u159, u160, u161, u162, u163, u164, u165, u166, u167, u168, u169, u170, u171, u172, u173, u174, u175, u176, u177, u178, u179, u180, u181, u182, u183, u184, u185, u186, u187, u188, u189, u190, u191, u192, u193, u194, u195, u196, u197, u198, u199, u200, u201, u202, u203, u204, u205, u206, u207, u208, u209, u210, u211, u212, u213, u214, u215, u216, u217, u218, u219, u220, u221, u222, u223, u224, u225, u226, u227, u228, u229, u230, u231, u232, u233, u234, u235, u236, u237, u238, u239, u240, u241, u242, u243, u244, u245, u246, u247, u248, u249, u250, u251, u252, u253, u254, u255, u256, u257, u258, u259, u260, u261, u262, u263, u264, u265, u266, u267, u268, u269, u270, u271, u272, u273, u274, u275, u276, u277, u278, u279, u280, u281, u282, u283, u284, u285, u286, u287, u288, u289, u290, u291, u292, u293, u294, u295, u296, u297, u298, u299, u300, u301, u302, u303, u304, u305, u306, u307, u308, u309, u310, u311, u312, u313, u314, u315, u316, u317, u318, u319, u320, u321, u322, u323, u324, u325, u326, u327, u328, u329, u330, u331, u332, u333, u334, u335, u336, u337, u338, u339, u340, u341, u342, u343, u344, u345, u346, u347, u348, u349, u350, u351, u352, u353, u354, u355, u356, u357, u358, u359, u360, u361, u362, u363, u364, u365, u366, u367, u368, u369, u370, u371, u372, u373, u374, u375, u376], []⟩ Y := by
  obtain ⟨hw0, hw1⟩ := hw
  have hm16 : what.tmod 16 = 5 := by rw [Int.tmod_eq_emod_of_nonneg hw0]; exact h16
  obtain ⟨q1, q2, q3, q4, q5, q6, q7, q8⟩ := h.nums
  have qs := h.size
  have qd := h.ok.1
  have hB : Y.heap[BB]? = some (.cells #[.int .u16 D.total, .int .u8 D.ifs, .int .u8 D.number, .int .u8 D.text, .bool D.self, .bool D.wake, .int .u8 D.power, .slice (some ⟨gI, 0, none⟩) n1 cI] 32 (0, 0)) := h.mid.box
  obtain ⟨cur, hA⟩ := h.heapA
  have lB := heap_lt hB
  have lg := heap_lt hA
  have hk := h.mid.kept
  have hkS := hk.size
  have c0 : Y.cell? ⟨g, j * 9, none⟩ = some (.int .u8 p.a.d.num) := h.cells 0 _ rfl
  have f0 := frozen_heap hA (o := j * 9)
  have hwr : IntKind.u8.wrap (p.a.d.num + 1) = p.a.d.num + 1 := wrap8 (by omega) (by omega)
  have H := hide h
  have HT := hide hT
  have HB := hide hB
  have HA := hide hA
  have Hq := hide (⟨q1, q2, q3, q4, q5, q6, q7, q8, qs, qd⟩ : D.total = (sizeS ⟨D, I⟩ : Int) ∧ D.ifs = (n1 : Int) ∧ p.a.d.num = (i : Int) ∧ p.a.d.alt = (j : Int) ∧ p.a.d.eps = (p.a.eps.length : Int) ∧ i < 6 ∧ j < 16 ∧ p.a.eps.length ≤ 30 ∧ sizeS ⟨D, I⟩ ≤ 3129 ∧ D.ok)
  clear h hT hB hA h16 q1 q2 q3 q4 q5 q6 q7 q8 qs qd hk hkS
  conv => arg 2; whnf
  conv at hK => enter [a, w', 1, 2]; whnf
  conv at hK2 => enter [a, w', 1, 2]; whnf
  go_upto_region 67 with (fail)
  obtain ⟨q1, q2, q3, q4, q5, q6, q7, q8, qs, qd⟩ := Hq.out
  have hE : EndC w _ BB n1 cI (some ⟨gI, 0, none⟩) D (I.set i (l.set j { p.a with d := { p.a.d with num := (p.a.d.num + 1) } })) := H.out.endAlt (D' := D) (p' := ⟨{ p.a with d := { p.a.d with num := (p.a.d.num + 1) } }, p.X, p.E⟩) (H.out.mid.field H.out.y H.out.p H.out.own (d' := { p.a.d with num := (p.a.d.num + 1) }) (o := 0) (u := .int .u8 (p.a.d.num + 1)) (by decide) rfl (by obtain ⟨o0, o1, o2, o3, o4, o5, o6⟩ := H.out.pok.1; exact ⟨(by unfold u8k; simp only; omega), o1, o2, o3, o4, o5, o6⟩)) qd
  refine chk_tail hE.kept hE.box hE.cfg hE.len (by have h1 := size_at (D := D) (D' := D) (a' := { p.a with d := { p.a.d with num := (p.a.d.num + 1) } }) H.out.hl H.out.ha; have h2 : altSize { p.a with d := { p.a.d with num := (p.a.d.num + 1) } } = altSize p.a := rfl; omega) (bad_num H.out.chk H.out.hl H.out.ha (by omega)) HT.out _ ?_
  assumption
set_option maxRecDepth 1000000 in
set_option maxHeartbeats 16000000 in
theorem chk_6 {u0 u1 u3 u4 u5 u6 u12 u13 u14 u15 u16 u17 u18 u19 u20 u21 u22 u23 u24 u25 u26 u27 u28 u29 u30 u31 u32 u33 u34 u35 u36 u37 u38 u39 u40 u41 u42 u43 u44 u45 u46 u47 u48 u49 u50 u51 u52 u53 u54 u55 u56 u57 u58 u59 u60 u61 u62 u63 u64 u65 u66 u67 u68 u69 u70 u71 u72 u73 u74 u75 u76 u77 u78 u79 u80 u81 u82 u83 u84 u85 u86 u87 u88 u89 u90 u91 u92 u93 u94 u95 u96 u97 u98 u99 u100 u101 u102 u103 u104 u105 u106 u107 u108 u109 u110 u111 u112 u113 u114 u115 u116 u117 u118 u119 u120 u121 u122 u123 u124 u125 u126 u127 u128 u129 u130 u131 u132 u133 u134 u135 u136 u137 u138 u139 u140 u141 u142 u143 u144 u145 u146 u147 u148 u149 u150 u151 u152 u153 u154 u155 u156 u157 u158 u159 u160 u161 u162 u163 u164 u165 u166 u167 u168 u169 u170 u171 u172 u173 u174 u175 u176 u177 u178 u179 u180 u181 u182 u183 u184 u185 u186 u187 u188 u189 u190 u191 u192 u193 u194 u195 u196 u197 u198 u199 u200 u201 u202 u203 u204 u205 u206 u207 u208 u209 u210 u211 u212 u213 u214 u215 u216 u217 u218 u219 u220 u221 u222 u223 u224 u225 u226 u227 u228 u229 u230 u231 u232 u233 u234 u235 u236 u237 u238 u239 u240 u241 u242 u243 u244 u245 u246 u247 u248 u249 u250 u251 u252 u253 u254 u255 u256 u257 u258 u259 u260 u261 u262 u263 u264 u265 u266 u267 u268 u269 u270 u271 u272 u273 u274 u275 u276 u277 u278 u279 u280 u281 u282 u283 u284 u285 u286 u287 u288 u289 u290 u291 u292 u293 u294 u295 u296 u297 u298 u299 u300 u301 u302 u303 u304 u305 u306 u307 u308 u309 u310 u311 u312 u313 u314 u315 u316 u317 u318 u319 u320 u321 u322 u323 u324 u325 u326 u327 u328 u329 u330 u331 u332 u333 u334 u335 u336 u337 u338 u339 u340 u341 u342 u343 u344 u345 u346 u347 u348 u349 u350 u351 u352 u353 u354 u355 u356 u357 u358 u359 u360 u361 u362 u363 u364 u365 u366 u367 u368 u369 u370 u371 u372 u373 u374 u375 u376 : Value} {w Y : World} {S BB gI g n1 cI m cA i j : Nat} {D : CfgD} {I : List (List Alt)} {l : List Alt} {L : List LF} {y : LF} {p : LA} {what : Int} (h : CK w Y S BB gI g n1 cI m cA i j D I l L y p) (hw : u8k what) (h16 : what % 16 = 6) (hT : Tabs w)
    (K K2 : Act → World → Prop) (hK : ∀ a w', Code.wp Tryd.prog (restC code8) (Exit.then K2 (bodyPost Tryd.prog Tryd.f6 fun e w' => e = .returned (.bool true) ∧ Kept w w')) a w' → K a w') (hK2 : ∀ a w', Code.wp Tryd.prog code67 (bodyPost Tryd.prog Tryd.f6 fun e w' => e = .returned (.bool true) ∧ Kept w w') a w' → K2 a w') :
    Code.wp Tryd.prog (headC code8) (Exit.then K (Exit.then K2 (bodyPost Tryd.prog Tryd.f6 fun e w' => e = .returned (.bool true) ∧ Kept w w'))) ⟨#[u0, u1, .int .u8 what, u3, u4, u5, u6, .pointer (some ⟨BB, 0, none⟩), .int .i64 (i : Int), .int .i64 (j : Int), .pointer (some ⟨g, j * 9, none⟩), .int .i64 1, u12, u13, u14, u15, u16, u17, u18, u19, u20, u21, u22, u23, u24, u25, u26, u27, u28, u29, u30, u31, u32, u33, u34, u35, u36, u37, u38, u39, u40, u41, u42, u43, u44, u45, u46, u47, u48, u49, u50, u51, u52, u53, u54, u55, u56, u57, u58, u59, u60, u61, u62, u63, u64, u65, u66, u67, u68, u69, u70, u71, u72, u73, u74, u75, u76, u77, u78, u79, u80, u81, u82, u83, u84, u85, u86, u87, u88, u89, u90, u91, u92, u93, u94, u95, u96, u97, u98, u99, u100, u101, u102, u103, u104, u105, u106, u107, u108, u109, u110, u111, u112, u113, u114, u115, u116, u117, u118, u119, u120, u121, u122, u123, u124, u125, u126, u127, u128, u129, u130, u131, u132, u133, u134, u135, u136, u137, u138, u139, u140, u141, u142, u143, u144, u145, u146, u147, u148, u149, u150, u151, u152, u153, u154, u155, u156, u157, u158, u159, u160, u161, u162, u163, u164, u165, u166, u167, u168, u169, u170, u171, u172, u173, u174, u175, u176, u177, u178, u179, u180, u181, u182, u183, u184, u185, u186, u187, u188, u189, u190, u191, u192, u193, u194, u195, u196, u197, u198, u199, u200, u201, u202, u203, u204, u205, u206, u207, u208, u209, u210, u211, u212, u213, u214, u215, u216, u217, u218, u219, u220, u221, u222, u223, u224, u225, u226, u227, u228, u229, u230, u231, u232, u233, u234, u235, u236, u237, u238, u239, u240, u241, u242, u243, u244, u245, u246, u247, u248, u249, u250, u251, u252, u253, u254, u255, u256, u257, u258, u259, u260, u261, u262, u263, u264, u265, u266, u267, u268, u269, u270, u271, u272, u273, u274, u275, u276, u277, u278, u279, u280, u281, u282, u283, u284, u285, u286, u287, u288, u289, u290, u291, u292, u293, u294, u295, u296, u297, u298, u299, u300, u301, u302, u303, u304, u305, u306, u307, u308, u309, u310, u311, u312, u313, u314, u315, u316, u317, u318, u319, u320, u321, u322, u323, u324, u325, u326, u327, u328, u329, u330, u331, u332, u333, u334, u335, u336, u337, u338, u339, u340, u341, u342, u343, u344, u345, u346, u347, u348, u349, u350, u351, u352, u353, u354, u355, u356, u357, u358, u359, u360, u361, u362, u363, u364, u365, u366, u367, u368, u369, u370, u371, u372, u373, u374, u375, u376], []⟩ Y := by
  obtain ⟨hw0, hw1⟩ := hw
  have hm16 : what.tmod 16 = 6 := by rw [Int.tmod_eq_emod_of_nonneg hw0]; exact h16
  obtain ⟨q1, q2, q3, q4, q5, q6, q7, q8⟩ := h.nums
  have qs := h.size
  have qd := h.ok.1
  have hB : Y.heap[BB]? = some (.cells #[.int .u16 D.total, .int .u8 D.ifs, .int .u8 D.number, .int .u8 D.text, .bool D.self, .bool D.wake, .int .u8 D.power, .slice (some ⟨gI, 0, none⟩) n1 cI] 32 (0, 0)) := h.mid.box
  obtain ⟨cur, hA⟩ := h.heapA
  have lB := heap_lt hB
  have lg := heap_lt hA
  have hk := h.mid.kept
  have hkS := hk.size
  have c1 : Y.cell? ⟨g, j * 9 + 1, none⟩ = some (.int .u8 p.a.d.alt) := h.cells 1 _ rfl
  have f1 := frozen_heap hA (o := j * 9 + 1)
  have hwr : IntKind.u8.wrap (p.a.d.alt + 1) = p.a.d.alt + 1 := wrap8 (by omega) (by omega)
  have H := hide h
  have HT := hide hT
  have HB := hide hB
  have HA := hide hA
  have Hq := hide (⟨q1, q2, q3, q4, q5, q6, q7, q8, qs, qd⟩ : D.total = (sizeS ⟨D, I⟩ : Int) ∧ D.ifs = (n1 : Int) ∧ p.a.d.num = (i : Int) ∧ p.a.d.alt = (j : Int) ∧ p.a.d.eps = (p.a.eps.length : Int) ∧ i < 6 ∧ j < 16 ∧ p.a.eps.length ≤ 30 ∧ sizeS ⟨D, I⟩ ≤ 3129 ∧ D.ok)
  clear h hT hB hA h16 q1 q2 q3 q4 q5 q6 q7 q8 qs qd hk hkS
  conv => arg 2; whnf
  conv at hK => enter [a, w', 1, 2]; whnf
  conv at hK2 => enter [a, w', 1, 2]; whnf
  go_upto_region 67 with (fail)
  obtain ⟨q1, q2, q3, q4, q5, q6, q7, q8, qs, qd⟩ := Hq.out
  have hE : EndC w _ BB n1 cI (some ⟨gI, 0, none⟩) D (I.set i (l.set j { p.a with d := { p.a.d with alt := (p.a.d.alt + 1) } })) := H.out.endAlt (D' := D) (p' := ⟨{ p.a with d := { p.a.d with alt := (p.a.d.alt + 1) } }, p.X, p.E⟩) (H.out.mid.field H.out.y H.out.p H.out.own (d' := { p.a.d with alt := (p.a.d.alt + 1) }) (o := 1) (u := .int .u8 (p.a.d.alt + 1)) (by decide) rfl (by obtain ⟨o0, o1, o2, o3, o4, o5, o6⟩ := H.out.pok.1; exact ⟨o0, (by unfold u8k; simp only; omega), o2, o3, o4, o5, o6⟩)) qd
  refine chk_tail hE.kept hE.box hE.cfg hE.len (by have h1 := size_at (D := D) (D' := D) (a' := { p.a with d := { p.a.d with alt := (p.a.d.alt + 1) } }) H.out.hl H.out.ha; have h2 : altSize { p.a with d := { p.a.d with alt := (p.a.d.alt + 1) } } = altSize p.a := rfl; omega) (bad_alt H.out.chk H.out.hl H.out.ha (by omega)) HT.out _ ?_
  assumption
set_option maxRecDepth 1000000 in
set_option maxHeartbeats 16000000 in
theorem chk_7 {u0 u1 u3 u4 u5 u6 u12 u13 u14 u15 u16 u17 u18 u19 u20 u21 u22 u23 u24 u25 u26 u27 u28 u29 u30 u31 u32 u33 u34 u35 u36 u37 u38 u39 u40 u41 u42 u43 u44 u45 u46 u47 u48 u49 u50 u51 u52 u53 u54 u55 u56 u57 u58 u59 u60 u61 u62 u63 u64 u65 u66 u67 u68 u69 u70 u71 u72 u73 u74 u75 u76 u77 u78 u79 u80 u81 u82 u83 u84 u85 u86 u87 u88 u89 u90 u91 u92 u93 u94 u95 u96 u97 u98 u99 u100 u101 u102 u103 u104 u105 u106 u107 u108 u109 u110 u111 u112 u113 u114 u115 u116 u117 u118 u119 u120 u121 u122 u123 u124 u125 u126 u127 u128 u129 u130 u131 u132 u133 u134 u135 u136 u137 u138 u139 u140 u141 u142 u143 u144 u145 u146 u147 u148 u149 u150 u151 u152 u153 u154 u155 u156 u157 u158 u159 u160 u161 u162 u163 u164 u165 u166 u167 u168 u169 u170 u171 u172 u173 u174 u175 u176 u177 u178 u179 u180 u181 u182 u183 u184 u185 u186 u187 u188 u189 u190 u191 u192 u193 u194 u195 u196 u197 u198 u199 u200 u201 u202 u203 u204 u205 u206 u207 u208 u209 u210 u211 u212 u213 u214 u215 u216 u217 u218 u219 u220 u221 u222 u223 u224 u225 u226 u227 u228 u229 u230 u231 u232 u233 u234 u235 u236 u237 u238 u239 u240 u241 u242 u243 u244 u245 u246 u247 u248 u249 u250 u251 u252 u253 u254 u255 u256 u257 u258 u259 u260 u261 u262 u263 u264 u265 u266 u267 u268 u269 u270 u271 u272 u273 u274 u275 u276 u277 u278 u279 u280 u281 u282 u283 u284 u285 u286 u287 u288 u289 u290 u291 u292 u293 u294 u295 u296 u297 u298 u299 u300 u301 u302 u303 u304 u305 u306 u307 u308 u309 u310 u311 u312 u313 u314 u315 u316 u317 u318 u319 u320 u321 u322 u323 u324 u325 u326 u327 u328 u329 u330 u331 u332 u333 u334 u335 u336 u337 u338 u339 u340 u341 u342 u343 u344 u345 u346 u347 u348 u349 u350 u351 u352 u353 u354 u355 u356 u357 u358 u359 u360 u361 u362 u363 u364 u365 u366 u367 u368 u369 u370 u371 u372 u373 u374 u375 u376 : Value} {w Y : World} {S BB gI g n1 cI m cA i j : Nat} {D : CfgD} {I : List (List Alt)} {l : List Alt} {L : List LF} {y : LF} {p : LA} {what : Int} (h : CK w Y S BB gI g n1 cI m cA i j D I l L y p) (hw : u8k what) (h16 : what % 16 = 7) (hT : Tabs w)
    (K K2 : Act → World → Prop) (hK : ∀ a w', Code.wp Tryd.prog (restC code8) (Exit.then K2 (bodyPost Tryd.prog Tryd.f6 fun e w' => e = .returned (.bool true) ∧ Kept w w')) a w' → K a w') (hK2 : ∀ a w', Code.wp Tryd.prog code67 (bodyPost Tryd.prog Tryd.f6 fun e w' => e = .returned (.bool true) ∧ Kept w w') a w' → K2 a w') :
    Code.wp Tryd.prog (headC code8) (Exit.then K (Exit.then K2 (bodyPost Tryd.prog Tryd.f6 fun e w' => e = .returned (.bool true) ∧ Kept w w'))) ⟨#[u0, u1, .int .u8 what, u3, u4, u5, u6, .pointer (some ⟨BB, 0, none⟩), .int .i64 (i : Int), .int .i64 (j : Int), .pointer (some ⟨g, j * 9, none⟩), .int .i64 1, u12, u13, u14, u15, u16, u17, u18, u19, u20, u21, u22, u23, u24, u25, u26, u27, u28, u29, u30, u31, u32, u33, u34, u35, u36, u37, u38, u39, u40, u41, u42, u43, u44, u45, u46, u47, u48, u49, u50, u51, u52, u53, u54, u55, u56, u57, u58, u59, u60, u61, u62, u63, u64, u65, u66, u67, u68, u69, u70, u71, u72, u73, u74, u75, u76, u77, u78, u79, u80, u81, u82, u83, u84, u85, u86, u87, u88, u89, u90, u91, u92, u93, u94, u95, u96, u97, u98, u99, u100, u101, u102, u103, u104, u105, u106, u107, u108, u109, u110, u111, u112, u113, u114, u115, u116, u117, u118, u119, u120, u121, u122, u123, u124, u125, u126, u127, u128, u129, u130, u131, u132, u133, u134, u135, u136, u137, u138, u139, u140, u141, u142, u143, u144, u145, u146, u147, u148, u149, u150, u151, u152, u153, u154, u155, u156, u157, u158, u159, u160, u161, u162, u163, u164, u165, u166, u167, u168, u169, u170, u171, u172, u173, u174, u175, u176, u177, u178, u179, u180, u181, u182, u183, u184, u185, u186, u187, u188, u189, u190, u191, u192, u193, u194, u195, u196, u197, u198, u199, u200, u201, u202, u203, u204, u205, u206, u207, u208, u209, u210, u211, u212, u213, u214, u215, u216, u217, u218, u219, u220, u221, u222, u223, u224, u225, u226, u227, u228, u229, u230, u231, u232, u233, u234, u235, u236, u237, u238, u239, u240, u241, u242, u243, u244, u245, u246, u247, u248, u249, u250, u251, u252, u253, u254, u255, u256, u257, u258, u259, u260, u261, u262, u263, u264, u265, u266, u267, u268, u269, u270, u271, u272, u273, u274, u275, u276, u277, u278, u279, u280, u281, u282, u283, u284, u285, u286, u287, u288, u289, u290, u291, u292, u293, u294, u295, u296, u297, u298, u299, u300, u301, u302, u303, u304, u305, u306, u307, u308, u309, u310, u311, u312, u313, u314, u315, u316, u317, u318, u319, u320, u321, u322, u323, u324, u325, u326, u327, u328, u329, u330, u331, u332, u333, u334, u335, u336, u337, u338, u339, u340, u341, u342, u343, u344, u345, u346, u347, u348, u349, u350, u351, u352, u353, u354, u355, u356, u357, u358, u359, u360, u361, u362, u363, u364, u365, u366, u367, u368, u369, u370, u371, u372, u373, u374, u375, u376], []⟩ Y := by
  obtain ⟨hw0, hw1⟩ := hw
  have hm16 : what.tmod 16 = 7 := by rw [Int.tmod_eq_emod_of_nonneg hw0]; exact h16
  obtain ⟨q1, q2, q3, q4, q5, q6, q7, q8⟩ := h.nums
  have qs := h.size
  have qd := h.ok.1
  have hB : Y.heap[BB]? = some (.cells #[.int .u16 D.total, .int .u8 D.ifs, .int .u8 D.number, .int .u8 D.text, .bool D.self, .bool D.wake, .int .u8 D.power, .slice (some ⟨gI, 0, none⟩) n1 cI] 32 (0, 0)) := h.mid.box
  obtain ⟨cur, hA⟩ := h.heapA
  have lB := heap_lt hB
  have lg := heap_lt hA
  have hk := h.mid.kept
  have hkS := hk.size
  have c2 : Y.cell? ⟨g, j * 9 + 2, none⟩ = some (.int .u8 p.a.d.eps) := h.cells 2 _ rfl
  have f2 := frozen_heap hA (o := j * 9 + 2)
  have hwr : IntKind.u8.wrap (p.a.d.eps + 1) = p.a.d.eps + 1 := wrap8 (by omega) (by omega)
  have H := hide h
  have HT := hide hT
  have HB := hide hB
  have HA := hide hA
  have Hq := hide (⟨q1, q2, q3, q4, q5, q6, q7, q8, qs, qd⟩ : D.total = (sizeS ⟨D, I⟩ : Int) ∧ D.ifs = (n1 : Int) ∧ p.a.d.num = (i : Int) ∧ p.a.d.alt = (j : Int) ∧ p.a.d.eps = (p.a.eps.length : Int) ∧ i < 6 ∧ j < 16 ∧ p.a.eps.length ≤ 30 ∧ sizeS ⟨D, I⟩ ≤ 3129 ∧ D.ok)
  clear h hT hB hA h16 q1 q2 q3 q4 q5 q6 q7 q8 qs qd hk hkS
  conv => arg 2; whnf
  conv at hK => enter [a, w', 1, 2]; whnf
  conv at hK2 => enter [a, w', 1, 2]; whnf
  go_upto_region 67 with (fail)
  obtain ⟨q1, q2, q3, q4, q5, q6, q7, q8, qs, qd⟩ := Hq.out
  have hE : EndC w _ BB n1 cI (some ⟨gI, 0, none⟩) D (I.set i (l.set j { p.a with d := { p.a.d with eps := (p.a.d.eps + 1) } })) := H.out.endAlt (D' := D) (p' := ⟨{ p.a with d := { p.a.d with eps := (p.a.d.eps + 1) } }, p.X, p.E⟩) (H.out.mid.field H.out.y H.out.p H.out.own (d' := { p.a.d with eps := (p.a.d.eps + 1) }) (o := 2) (u := .int .u8 (p.a.d.eps + 1)) (by decide) rfl (by obtain ⟨o0, o1, o2, o3, o4, o5, o6⟩ := H.out.pok.1; exact ⟨o0, o1, (by unfold u8k; simp only; omega), o3, o4, o5, o6⟩)) qd
  refine chk_tail hE.kept hE.box hE.cfg hE.len (by have h1 := size_at (D := D) (D' := D) (a' := { p.a with d := { p.a.d with eps := (p.a.d.eps + 1) } }) H.out.hl H.out.ha; have h2 : altSize { p.a with d := { p.a.d with eps := (p.a.d.eps + 1) } } = altSize p.a := rfl; omega) (bad_eps H.out.chk H.out.hl H.out.ha (by omega)) HT.out _ ?_
  assumption
end Go.Proofs.YtjgncofhobhjdaaDoor
/- The law Check: bytes of vendors that are none. Printed by gen_ve.py. -/
namespace Go.Proofs.YtjgncofhobhjdaaDoor
open Go.RowKit
attribute [local go_sem ↓] Go.wp_at_zero Go.wp_at_succ

section
variable {w W : World} {S BB g m cA i j : Nat} {v : Value} {D : CfgD} {L : List LF} {y : LF} {p : LA}
theorem MidC.cells (h : MidC w W S BB v D L) (hy : L[i]? = some y) (hp : y.alts[j]? = some p) (hv : y.v = .slice (some ⟨g, 0, none⟩) m cA) (hm : y.alts.length = m) : ∀ (o : Nat) u, p.cells[o]? = some u → W.cell? ⟨g, j * 9 + o, none⟩ = some u := by
  have h1 := (h.lis.rows y (List.mem_of_getElem? hy)).1
  rw [hv, hm] at h1
  exact own_cells (j := j) (cs := p.cells) h1 hp (fun F c hr => hr.1)
theorem MidC.heapA (h : MidC w W S BB v D L) (hy : L[i]? = some y) (hg : y.v.ownBlock = some g) : ∃ cur, W.heap[g]? = some (.cells cur 56 (0, 0)) := by
  obtain ⟨_, cur, _, hh⟩ := ownBlock_heap (h.lis.rows y (List.mem_of_getElem? hy)).1 hg
  exact ⟨cur, hh⟩
theorem set_y {p1 : LA} (hy : L[i]? = some y) : (L.set i ⟨y.alts.set j p1, y.v⟩)[i]? = some ⟨y.alts.set j p1, y.v⟩ := by
  rw [List.getElem?_set, if_pos rfl, if_pos (List.getElem?_eq_some_iff.1 hy).1]
theorem set_p {p1 : LA} (hp : y.alts[j]? = some p) : (y.alts.set j p1)[j]? = some p1 := by
  rw [List.getElem?_set, if_pos rfl, if_pos (List.getElem?_eq_some_iff.1 hp).1]
theorem set_set_y {p1 p2 : LA} : (L.set i ⟨y.alts.set j p1, y.v⟩).set i ⟨(y.alts.set j p1).set j p2, y.v⟩ = L.set i ⟨y.alts.set j p2, y.v⟩ := by
  rw [List.set_set, List.set_set]
/-- two literal endpoints -/
theorem sl_ep2 {b : Nat} {e : EpD} {F : Nat → Prop} (h : W.heap[b]? = some (.cells (e.cells ++ e.cells).toArray 59 (0, 0))) (hb : F b) (he : e.ok) : Sl epT W F (some ⟨b, 0, none⟩) 2 [e, e] := by
  refine ⟨rfl, fun i x hx => ⟨b, 0, e.cells, rfl, hb, ?_, fun j u hu => ?_⟩⟩
  · have hxe : x = e := by
      have := List.mem_of_getElem? hx
      simpa using this
    rw [hxe]; exact ⟨rfl, he⟩
  · have hi : i = 0 ∨ i = 1 := by
      have := (List.getElem?_eq_some_iff.1 hx).1
      simp at this
      omega
    have hj : j < 5 := (List.getElem?_eq_some_iff.1 hu).1
    refine cell_heap h ?_
    show (e.cells ++ e.cells).toArray[0 + i * 5 + j]? = some u
    rw [List.getElem?_toArray]
    rcases hi with rfl | rfl
    · rw [show 0 + 0 * 5 + j = j by omega, List.getElem?_append_left (by exact hj)]; exact hu
    · rw [show 0 + 1 * 5 + j = 5 + j by omega, List.getElem?_append_right (by show 5 ≤ 5 + j; omega), show 5 + j - e.cells.length = j by show 5 + j - 5 = j; omega]; exact hu
theorem ep_cells_one : ∀ (F : Nat → Prop) (w : World) (x : EpD) (cs : List Value), epT.rel w F x cs → ∀ u ∈ cs, u.oneCell' = true := by
  rintro F w x cs ⟨rfl, _⟩ u hu
  simp [EpD.cells] at hu
  rcases hu with rfl | rfl | rfl | rfl | rfl <;> rfl
end
def EPB : EpD := ⟨16, false, 2, 8, 0⟩
theorem epb_ok : EPB.ok := by unfold EPB EpD.ok u8k u16k; simp
def EPC : EpD := ⟨15, false, 2, 8, 0⟩
theorem epc_ok : EPC.ok := by unfold EPC EpD.ok u8k u16k; simp
set_option maxRecDepth 1000000 in
set_option maxHeartbeats 16000000 in
theorem chk_9 {u0 u1 u3 u4 u5 u6 u12 u13 u14 u15 u16 u17 u18 u19 u20 u21 u22 u23 u24 u25 u26 u27 u28 u29 u30 u31 u32 u33 u34 u35 u36 u37 u38 u39 u40 u41 u42 u43 u44 u45 u46 u47 u48 u49 u50 u51 u52 u53 u54 u55 u56 u57 u58 u59 u60 u61 u62 u63 u64 u65 u66 u67 u68 u69 u70 u71 u72 u73 u74 u75 u76 u77 u78 u79 u80 u81 u82 u83 u84 u85 u86 u87 u88 u89 u90 u91 u92 u93 u94 u95 u96 u97 u98 u99 u100 u101 u102 u103 u104 u105 u106 u107 u108 u109 u110 u111 u112 u113 u114 u115 u116 u117 u118 u119 u120 u121 u122 u123 u124 u125 u126 u127 u128 u129 u130 u131 u132 u133 u134 u135 u136 u137 u138 u139 u140 u141 u142 u143 u144 u145 u146 u147 u148 u149 u150 u151 u152 u153 u154 u155 u156 u157 u158 u159 u160 u161 u162 u163 u164 u165 u166 u167 u168 u169 u170 u171 u172 u173 u174 u175 u176 u177 u178 u179 u180 u181 u182 u183 u184 u185 u186 u187 u188 u189 u190 u191 u192 u193 u194 u195 u196 u197 u198 u199 u200 u201 u202 u203 u204 u205 u206 u207 u208 u209 u210 u211 u212 u213 u214 u215 u216 u217 u218 u219 u220 u221 u222 u223 u224 u225 u226 u227 u228 u229 u230 u231 u232 u233 u234 u235 u236 u237 u238 u239 u240 u241 u242 u243 u244 u245 u246 u247 u248 u249 u250 u251 u252 u253 u254 u255 u256 u257 u258 u259 u260 u261 u262 u263 u264 u265 u266 u267 u268 u269 u270 u271 u272 u273 u274 u275 u276 u277 u278 u279 u280 u281 u282 u283 u284 u285 u286 u287 u288 u289 u290 u291 u292 u293 u294 u295 u296 u297 u298 u299 u300 u301 u302 u303 u304 u305 u306 u307 u308 u309 u310 u311 u312 u313 u314 u315 u316 u317 u318 u319 u320 u321 u322 u323 u324 u325 u326 u327 u328 u329 u330 u331 u332 u333 u334 u335 u336 u337 u338 u339 u340 u341 u342 u343 u344 u345 u346 u347 u348 u349 u350 u351 u352 u353 u354 u355 u356 u357 u358 u359 u360 u361 u362 u363 u364 u365 u366 u367 u368 u369 u370 u371 u372 u373 u374 u375 u376 : Value} {w Y : World} {S BB gI g n1 cI m cA i j : Nat} {D : CfgD} {I : List (List Alt)} {l : List Alt} {L : List LF} {y : LF} {p : LA} {what : Int} (h : CK w Y S BB gI g n1 cI m cA i j D I l L y p) (hw : u8k what) (h16 : what % 16 = 9) (hT : Tabs w)
    (K K2 : Act → World → Prop) (hK : ∀ a w', Code.wp Tryd.prog (restC code8) (Exit.then K2 (bodyPost Tryd.prog Tryd.f6 fun e w' => e = .returned (.bool true) ∧ Kept w w')) a w' → K a w') (hK2 : ∀ a w', Code.wp Tryd.prog code67 (bodyPost Tryd.prog Tryd.f6 fun e w' => e = .returned (.bool true) ∧ Kept w w') a w' → K2 a w') :
    Code.wp Tryd.prog (headC code8) (Exit.then K (Exit.then K2 (bodyPost Tryd.prog Tryd.f6 fun e w' => e = .returned (.bool true) ∧ Kept w w'))) ⟨#[u0, u1, .int .u8 what, u3, u4, u5, u6, .pointer (some ⟨BB, 0, none⟩), .int .i64 (i : Int), .int .i64 (j : Int), .pointer (some ⟨g, j * 9, none⟩), .int .i64 1, u12, u13, u14, u15, u16, u17, u18, u19, u20, u21, u22, u23, u24, u25, u26, u27, u28, u29, u30, u31, u32, u33, u34, u35, u36, u37, u38, u39, u40, u41, u42, u43, u44, u45, u46, u47, u48, u49, u50, u51, u52, u53, u54, u55, u56, u57, u58, u59, u60, u61, u62, u63, u64, u65, u66, u67, u68, u69, u70, u71, u72, u73, u74, u75, u76, u77, u78, u79, u80, u81, u82, u83, u84, u85, u86, u87, u88, u89, u90, u91, u92, u93, u94, u95, u96, u97, u98, u99, u100, u101, u102, u103, u104, u105, u106, u107, u108, u109, u110, u111, u112, u113, u114, u115, u116, u117, u118, u119, u120, u121, u122, u123, u124, u125, u126, u127, u128, u129, u130, u131, u132, u133, u134, u135, u136, u137, u138, u139, u140, u141, u142, u143, u144, u145, u146, u147, u148, u149, u150, u151, u152, u153, u154, u155, u156, u157, u158, u159, u160, u161, u162, u163, u164, u165, u166, u167, u168, u169, u170, u171, u172, u173, u174, u175, u176, u177, u178, u179, u180, u181, u182, u183, u184, u185, u186, u187, u188, u189, u190, u191, u192, u193, u194, u195, u196, u197, u198, u199, u200, u201, u202, u203, u204, u205, u206, u207, u208, u209, u210, u211, u212, u213, u214, u215, u216, u217, u218, u219, u220, u221, u222, u223, u224, u225, u226, u227, u228, u229, u230, u231, u232, u233, u234, u235, u236, u237, u238, u239, u240, u241, u242, u243, u244, u245, u246, u247, u248, u249, u250, u251, u252, u253, u254, u255, u256, u257, u258, u259, u260, u261, u262, u263, u264, u265, u266, u267, u268, u269, u270, u271, u272, u273, u274, u275, u276, u277, u278, u279, u280, u281, u282, u283, u284, u285, u286, u287, u288, u289, u290, u291, u292, u293, u294, u295, u296, u297, u298, u299, u300, u301, u302, u303, u304, u305, u306, u307, u308, u309, u310, u311, u312, u313, u314, u315, u316, u317, u318, u319, u320, u321, u322, u323, u324, u325, u326, u327, u328, u329, u330, u331, u332, u333, u334, u335, u336, u337, u338, u339, u340, u341, u342, u343, u344, u345, u346, u347, u348, u349, u350, u351, u352, u353, u354, u355, u356, u357, u358, u359, u360, u361, u362, u363, u364, u365, u366, u367, u368, u369, u370, u371, u372, u373, u374, u375, u376], []⟩ Y := by
  obtain ⟨hw0, hw1⟩ := hw
  have hm16 : what.tmod 16 = 9 := by rw [Int.tmod_eq_emod_of_nonneg hw0]; exact h16
  obtain ⟨q1, q2, q3, q4, q5, q6, q7, q8⟩ := h.nums
  have qs := h.size
  have qd := h.ok.1
  have hB : Y.heap[BB]? = some (.cells #[.int .u16 D.total, .int .u8 D.ifs, .int .u8 D.number, .int .u8 D.text, .bool D.self, .bool D.wake, .int .u8 D.power, .slice (some ⟨gI, 0, none⟩) n1 cI] 32 (0, 0)) := h.mid.box
  obtain ⟨cur, hA⟩ := h.heapA
  have lB := heap_lt hB
  have lg := heap_lt hA
  have hk := h.mid.kept
  have hkS := hk.size
  obtain ⟨i8, hi8, h80, h81, h82⟩ := info_parts info5
  obtain ⟨iE, hiE, hE0, hE1, hE2⟩ := info_parts infoEp
  obtain ⟨iI, hiI, hI0, hI1, hI2⟩ := info_parts infoIf
  obtain ⟨iA, hiA, hA0, hA1, hA2⟩ := info_parts infoAlt
  have hX := h.rows.1
  obtain ⟨XX, cX, hXX, hx1, hx2⟩ := hX.isSlice
  have c7 : Y.cell? ⟨g, j * 9 + 7, none⟩ = some p.X := h.cells 7 _ rfl
  obtain ⟨nX, hnX⟩ : ∃ nX, p.a.extra.length = nX := ⟨_, rfl⟩
  have hnX2 : nX ≤ 3129 := by have h5 := h.psize; unfold altSize at h5; omega
  rw [hXX, hnX] at hX c7
  rw [hnX] at hXX
  have f7 := frozen_heap hA (o := j * 9 + 7)
  have HX := hide hX
  have HXX := hide hXX
  have HnX := hide hnX
  have HgX := hide h.neX
  have hSY : S ≤ Y.heap.size := by have := h.mid.low; omega
  clear hX hXX hnX
  have H := hide h
  have HT := hide hT
  have HB := hide hB
  have HA := hide hA
  have Hq := hide (⟨q1, q2, q3, q4, q5, q6, q7, q8, qs, qd⟩ : D.total = (sizeS ⟨D, I⟩ : Int) ∧ D.ifs = (n1 : Int) ∧ p.a.d.num = (i : Int) ∧ p.a.d.alt = (j : Int) ∧ p.a.d.eps = (p.a.eps.length : Int) ∧ i < 6 ∧ j < 16 ∧ p.a.eps.length ≤ 30 ∧ sizeS ⟨D, I⟩ ≤ 3129 ∧ D.ok)
  clear h hT hB hA h16 q1 q2 q3 q4 q5 q6 q7 q8 qs qd hk hkS
  conv => arg 2; whnf
  conv at hK => enter [a, w', 1, 2]; whnf
  conv at hK2 => enter [a, w', 1, 2]; whnf
  go_upto_region 39 with (at_builtin; refine wpList_append_el (T := u8T) rfl (.tmp 172) (.tmp 173) 34 rfl S 5 i8 _ 1 Tryd.underlying34 hi8 h80 h81 h82 rfl (by exact Nat.one_pos) _ nX p.a.extra (by rfl) (HX.out.alloc _) Y.heap.size _ _ 1 (by rfl) (heap_at _ rfl) (by exact ⟨rfl, by unfold u8k; omega⟩) (by simp [Value.oneCell']) (by unfold maxLen; omega) (by omega) (by simp; omega) ?_; intro g9 cap9 w9 hown9 hg9 hb9 hat9 hlt9; have hg9' := hg9; rw [← HXX.out] at hg9'; have hA9 := heap_grown hg9' ((heap_past HA.out)) (fun e => HgX.out e.symm); have c79 : w9.cell? ⟨g, j * 9 + 7, none⟩ = some (.slice XX nX cX) := (cell_of_row _ _ _ _ _ _ hA9).trans ((cell_of_row _ _ _ _ _ _ HA.out).symm.trans c7); have f79 := frozen_heap hA9 (o := j * 9 + 7); have lg9 := heap_lt hA9)
  have hm1 := (H.out.mid.keep (show Kept Y (Y.alloc (.cells #[.int .u8 1] 5)) from (Below.refl _ Y).alloc (Nat.le_refl _) _)).extra H.out.y H.out.p H.out.own H.out.pok.1 (X' := .slice (some ⟨g9, 0, none⟩) (nX + 1) cap9) (ex' := p.a.extra ++ [1]) hg9' (by rw [List.length_append, HnX.out]; exact hown9) (hat9.elim (fun h => .inl (by rw [HXX.out]; exact h.symm)) (fun h => .inr ⟨g9, rfl, (by first | omega | exact Nat.le_of_eq h.symm)⟩))
  have HM := hide hm1
  clear hm1 hown9 hg9 hg9' hb9 hat9 hA9 c79 f79 lg9
  refine wp_at (fun Z => MidC w Z S BB (.slice (some ⟨gI, 0, none⟩) n1 cI) D (L.set i ⟨y.alts.set j ⟨{ p.a with extra := p.a.extra ++ [1] }, .slice (some ⟨g9, 0, none⟩) (nX + 1) cap9, p.E⟩, y.v⟩)) (by first | exact HM.out | exact HM.out.keep (Below.refl _ _).drew) (fun Z hZ => ?_)
  have b0 : Z.cell? ⟨BB, 0, none⟩ = some (.int .u16 D.total) := cell_heap hZ.box (o := 0) rfl
  have f0 := frozen_heap hZ.box (o := 0)
  have lBZ := heap_lt hZ.box
  have hwt : IntKind.u16.wrap (D.total + 1) = D.total + 1 := by obtain ⟨q1, q2, q3, q4, q5, q6, q7, q8, qs, qd⟩ := Hq.out; exact wrap16 (by omega) (by omega)
  have HZ := hide hZ
  clear hZ
  go_upto_region 67 with (fail)
  obtain ⟨q1, q2, q3, q4, q5, q6, q7, q8, qs, qd⟩ := Hq.out
  have hE : EndC w _ BB n1 cI (some ⟨gI, 0, none⟩) { D with total := D.total + 1 } (I.set i (l.set j { p.a with extra := p.a.extra ++ [1] })) := H.out.endAlt (D' := { D with total := D.total + 1 }) (p' := ⟨{ p.a with extra := p.a.extra ++ [1] }, .slice (some ⟨g9, 0, none⟩) (nX + 1) cap9, p.E⟩) (HZ.out.setBox (D' := { D with total := D.total + 1 }) (o := 0) (u := .int .u16 (D.total + 1)) (by decide) rfl) (by obtain ⟨o1, o2, o3, o4, o5⟩ := qd; exact ⟨(by unfold u16k; simp only; omega), o2, o3, o4, o5⟩)
  refine chk_tail hE.kept hE.box hE.cfg hE.len (by have h1 := size_at (D := D) (D' := { D with total := D.total + 1 }) (a' := { p.a with extra := p.a.extra ++ [1] }) H.out.hl H.out.ha; have h2 : altSize { p.a with extra := p.a.extra ++ [1] } = altSize p.a + 1 := (by unfold altSize; simp; omega); omega) (bad_extra H.out.chk H.out.hl H.out.ha (t := [1]) (by simp; omega) (fun x hx => extra_one hx)) HT.out _ ?_
  assumption
end Go.Proofs.YtjgncofhobhjdaaDoor
