/- The law Check: descriptors that cannot stand among those of vendors. Printed by gen_ve.py. -/
import Derived.Test.YtjgncofhobhjdaaDoorChecked
import Derived.Deep.RegionHeld3
import Derived.Deep.DrawnRows
import Derived.Deep.DeepCutAuto
import Derived.Deep.LoopGhost
import Derived.Outline
import Derived.Handy
import Derived.OwnWalk
import Derived.BigQuiet
import Derived.Test.YtjgncofhobhjdaaDoorN30
set_option linter.unusedVariables false
set_option linter.unusedSimpArgs false
set_option linter.unusedSectionVars false
namespace Go.Proofs.YtjgncofhobhjdaaDoor
open Go.RowKit
attribute [local go_sem ↓] Go.wp_at_zero Go.wp_at_succ

set_option maxRecDepth 1000000 in
set_option maxHeartbeats 16000000 in
theorem chk_8_0 {u0 u1 u3 u4 u5 u6 u12 u13 u14 u15 u16 u17 u18 u19 u20 u21 u22 u23 u24 u25 u26 u27 u28 u29 u30 u31 u32 u33 u34 u35 u36 u37 u38 u39 u40 u41 u42 u43 u44 u45 u46 u47 u48 u49 u50 u51 u52 u53 u54 u55 u56 u57 u58 u59 u60 u61 u62 u63 u64 u65 u66 u67 u68 u69 u70 u71 u72 u73 u74 u75 u76 u77 u78 u79 u80 u81 u82 u83 u84 u85 u86 u87 u88 u89 u90 u91 u92 u93 u94 u95 u96 u97 u98 u99 u100 u101 u102 u103 u104 u105 u106 u107 u108 u109 u110 u111 u112 u113 u114 u115 u116 u117 u118 u119 u120 u121 u122 u123 u124 u125 u126 u127 u128 u129 u130 u131 u132 u133 u134 u135 u136 u137 u138 u139 u140 u141 u142 u143 u144 u145 u146 u147 u148 u149 u150 u151 u152 u153 u154 u155 u156 u157 u158 u159 u160 u161 u162 u163 u164 u165 u166 u167 u168 u169 u170 u171 u172 u173 u174 u175 u176 u177 u178 u179 u180 u181 u182 u183 u184 u185 u186 u187 u188 u189 u190 u191 u192 u193 u194 u195 u196 u197 u198 u199 u200 u201 u202 u203 u204 u205 u206 u207 u208 u209 u210 u211 u212 u213 u214 u215 u216 u217 u218 u219 u220 u221 u222 u223 u224 u225 u226 u227 u228 u229 u230 u231 u232 u233 u234 u235 u236 u237 u238 u239 u240 u241 u242 u243 u244 u245 u246 u247 u248 u249 u250 u251 u252 u253 u254 u255 u256 u257 u258 u259 u260 u261 u262 u263 u264 u265 u266 u267 u268 u269 u270 u271 u272 u273 u274 u275 u276 u277 u278 u279 u280 u281 u282 u283 u284 u285 u286 u287 u288 u289 u290 u291 u292 u293 u294 u295 u296 u297 u298 u299 u300 u301 u302 u303 u304 u305 u306 u307 u308 u309 u310 u311 u312 u313 u314 u315 u316 u317 u318 u319 u320 u321 u322 u323 u324 u325 u326 u327 u328 u329 u330 u331 u332 u333 u334 u335 u336 u337 u338 u339 u340 u341 u342 u343 u344 u345 u346 u347 u348 u349 u350 u351 u352 u353 u354 u355 u356 u357 u358 u359 u360 u361 u362 u363 u364 u365 u366 u367 u368 u369 u370 u371 u372 u373 u374 u375 u376 : Value} {w Y : World} {S BB gI g n1 cI m cA i j : Nat} {D : CfgD} {I : List (List Alt)} {l : List Alt} {L : List LF} {y : LF} {p : LA} {what : Int} (h : CK w Y S BB gI g n1 cI m cA i j D I l L y p) (hw : u8k what) (h16 : what % 16 = 8) (hr : what / 16 % 4 = 0) (hT : Tabs w)
    (K K2 : Act → World → Prop) (hK : ∀ a w', Code.wp Tryd.prog (restC code8) (Exit.then K2 (bodyPost Tryd.prog Tryd.f6 fun e w' => e = .returned (.bool true) ∧ Kept w w')) a w' → K a w') (hK2 : ∀ a w', Code.wp Tryd.prog code67 (bodyPost Tryd.prog Tryd.f6 fun e w' => e = .returned (.bool true) ∧ Kept w w') a w' → K2 a w') :
    Code.wp Tryd.prog (headC code8) (Exit.then K (Exit.then K2 (bodyPost Tryd.prog Tryd.f6 fun e w' => e = .returned (.bool true) ∧ Kept w w'))) ⟨#[u0, u1, .int .u8 what, u3, u4, u5, u6, .pointer (some ⟨BB, 0, none⟩), .int .i64 (i : Int), .int .i64 (j : Int), .pointer (some ⟨g, j * 9, none⟩), .int .i64 1, u12, u13, u14, u15, u16, u17, u18, u19, u20, u21, u22, u23, u24, u25, u26, u27, u28, u29, u30, u31, u32, u33, u34, u35, u36, u37, u38, u39, u40, u41, u42, u43, u44, u45, u46, u47, u48, u49, u50, u51, u52, u53, u54, u55, u56, u57, u58, u59, u60, u61, u62, u63, u64, u65, u66, u67, u68, u69, u70, u71, u72, u73, u74, u75, u76, u77, u78, u79, u80, u81, u82, u83, u84, u85, u86, u87, u88, u89, u90, u91, u92, u93, u94, u95, u96, u97, u98, u99, u100, u101, u102, u103, u104, u105, u106, u107, u108, u109, u110, u111, u112, u113, u114, u115, u116, u117, u118, u119, u120, u121, u122, u123, u124, u125, u126, u127, u128, u129, u130, u131, u132, u133, u134, u135, u136, u137, u138, u139, u140, u141, u142, u143, u144, u145, u146, u147, u148, u149, u150, u151, u152, u153, u154, u155, u156, u157, u158, u159, u160, u161, u162, u163, u164, u165, u166, u167, u168, u169, u170, u171, u172, u173, u174, u175, u176, u177, u178, u179, u180, u181, u182, u183, u184, u185, u186, u187, u188, u189, u190, u191, u192, u193, u194, u195, u196, u197, u198, u199, u200, u201, u202, u203, u204, u205, u206, u207, u208, u209, u210, u211, u212, u213, u214, u215, u216, u217, u218, u219, u220, u221, u222, u223, u224, u225, u226, u227, u228, u229, u230, u231, u232, u233, u234, u235, u236, u237, u238, u239, u240, u241, u242, u243, u244, u245, u246, u247, u248, u249, u250, u251, u252, u253, u254, u255, u256, u257, u258, u259, u260, u261, u262, u263, u264, u265, u266, u267, u268, u269, u270, u271, u272, u273, u274, u275, u276, u277, u278, u279, u280, u281, u282, u283, u284, u285, u286, u287, u288, u289, u290, u291, u292, u293, u294, u295, u296, u297, u298, u299, u300, u301, u302, u303, u304, u305, u306, u307, u308, u309, u310, u311, u312, u313, u314, u315, u316, u317, u318, u319, u320, u321, u322, u323, u324, u325, u326, u327, u328, u329, u330, u331, u332, u333, u334, u335, u336, u337, u338, u339, u340, u341, u342, u343, u344, u345, u346, u347, u348, u349, u350, u351, u352, u353, u354, u355, u356, u357, u358, u359, u360, u361, u362, u363, u364, u365, u366, u367, u368, u369, u370, u371, u372, u373, u374, u375, u376], []⟩ Y := by
  obtain ⟨hw0, hw1⟩ := hw
  have hm16 : what.tmod 16 = 8 := by rw [Int.tmod_eq_emod_of_nonneg hw0]; exact h16
  obtain ⟨q1, q2, q3, q4, q5, q6, q7, q8⟩ := h.nums
  have qs := h.size
  have qd := h.ok.1
  have hB : Y.heap[BB]? = some (.cells #[.int .u16 D.total, .int .u8 D.ifs, .int .u8 D.number, .int .u8 D.text, .bool D.self, .bool D.wake, .int .u8 D.power, .slice (some ⟨gI, 0, none⟩) n1 cI] 32 (0, 0)) := h.mid.box
  obtain ⟨cur, hA⟩ := h.heapA
  have lB := heap_lt hB
  have lg := heap_lt hA
  have hk := h.mid.kept
  have hkS := hk.size
  obtain ⟨i8, hi8, h80, h81, h82⟩ := info_parts info5
  obtain ⟨iE, hiE, hE0, hE1, hE2⟩ := info_parts infoEp
  obtain ⟨iI, hiI, hI0, hI1, hI2⟩ := info_parts infoIf
  obtain ⟨iA, hiA, hA0, hA1, hA2⟩ := info_parts infoAlt
  have hX := h.rows.1
  obtain ⟨XX, cX, hXX, hx1, hx2⟩ := hX.isSlice
  have c7 : Y.cell? ⟨g, j * 9 + 7, none⟩ = some p.X := h.cells 7 _ rfl
  obtain ⟨nX, hnX⟩ : ∃ nX, p.a.extra.length = nX := ⟨_, rfl⟩
  have hnX2 : nX ≤ 3129 := by have h5 := h.psize; unfold altSize at h5; omega
  rw [hXX, hnX] at hX c7
  rw [hnX] at hXX
  have f7 := frozen_heap hA (o := j * 9 + 7)
  have HX := hide hX
  have HXX := hide hXX
  have HnX := hide hnX
  have HgX := hide h.neX
  have hSY : S ≤ Y.heap.size := by have := h.mid.low; omega
  clear hX hXX hnX
  have hq16 : what.tdiv 16 = what / 16 := Int.tdiv_eq_ediv_of_nonneg hw0
  obtain ⟨qq, hqq⟩ : ∃ qq, what / 16 = qq := ⟨_, rfl⟩
  have hqn : 0 ≤ qq := by omega
  have hqm : qq ≤ 15 := by omega
  rw [hqq] at hq16
  have hwq : IntKind.u8.wrap qq = qq := wrap8 hqn (by omega)
  have hr4 : qq.tmod 4 = 0 := by rw [Int.tmod_eq_emod_of_nonneg hqn, ← hqq]; exact hr
  clear hqq hr
  have H := hide h
  have HT := hide hT
  have HB := hide hB
  have HA := hide hA
  have Hq := hide (⟨q1, q2, q3, q4, q5, q6, q7, q8, qs, qd⟩ : D.total = (sizeS ⟨D, I⟩ : Int) ∧ D.ifs = (n1 : Int) ∧ p.a.d.num = (i : Int) ∧ p.a.d.alt = (j : Int) ∧ p.a.d.eps = (p.a.eps.length : Int) ∧ i < 6 ∧ j < 16 ∧ p.a.eps.length ≤ 30 ∧ sizeS ⟨D, I⟩ ≤ 3129 ∧ D.ok)
  clear h hT hB hA h16 q1 q2 q3 q4 q5 q6 q7 q8 qs qd hk hkS
  conv => arg 2; whnf
  conv at hK => enter [a, w', 1, 2]; whnf
  conv at hK2 => enter [a, w', 1, 2]; whnf
  go_upto_region 35 with (fail)
  go_region_law (refine step_append_sl (T := u8T) rfl (.tmp 149) (.tmp 156) 34 rfl S 5 i8 _ 1 Tryd.underlying34 hi8 h80 h81 h82 rfl (by exact Nat.one_pos) _ nX p.a.extra (by rfl) ((HX.out.drew.alloc _).alloc _) (some ⟨Y.heap.size + 1, 0, none⟩) 2 2 [2, 1] (by rfl) (by exact sl_lit8 (l := [2, 1]) (heap_at _ (by first | rfl | simp)) ⟨by simp, fun e => by have := (HX.out.lt e).2; omega⟩ (by intro z hz; unfold u8k; simp at hz; omega)) (by_one8 _ _) (by unfold maxLen; omega) (by omega) (by simp; omega) ?_; intro v9 w9 hown9 hg9 hb9 hat9; obtain ⟨A9, c9, rfl, h91, h92⟩ := hown9.isSlice; have hg9' := hg9; rw [← HXX.out] at hg9'; have hA9 := heap_grown hg9' ((heap_past (heap_past HA.out))) (fun e => HgX.out e.symm); have c79 : w9.cell? ⟨g, j * 9 + 7, none⟩ = some (.slice XX nX cX) := (cell_of_row _ _ _ _ _ _ hA9).trans ((cell_of_row _ _ _ _ _ _ HA.out).symm.trans c7); have f79 := frozen_heap hA9 (o := j * 9 + 7); have lg9 := heap_lt hA9)
  all_goals
    have hm1 := (H.out.mid.keep (show Kept Y ((Y.drew.alloc (.cells #[.int .u8 1, .int .u8 2, .int .u8 4, .int .u8 5] 5)).alloc (.cells #[.int .u8 2, .int .u8 1] 5)) from (((Below.refl _ Y).drew).alloc (by exact Nat.le_refl _) _).alloc (by rw [World.size_alloc]; exact Nat.le_succ _) _)).extra H.out.y H.out.p H.out.own H.out.pok.1 (X' := .slice A9 (nX + 2) c9) (ex' := p.a.extra ++ [2, 1]) hg9' (by rw [List.length_append, HnX.out]; exact hown9) (hat9.elim (fun h => .inl (by rw [HXX.out]; exact h)) (fun h => .inr ⟨_, h, Nat.le_refl _⟩))
    have HM := hide hm1
    clear hm1 hown9 hg9 hg9' hb9 hat9 hA9 c79 f79 lg9
  all_goals
    go_upto_region 36 with (fail)
    refine wp_at (fun Z => MidC w Z S BB (.slice (some ⟨gI, 0, none⟩) n1 cI) D (L.set i ⟨y.alts.set j ⟨{ p.a with extra := p.a.extra ++ [2, 1] }, .slice A9 (nX + 2) c9, p.E⟩, y.v⟩)) (by first | exact HM.out | exact HM.out.keep (Below.refl _ _).drew) (fun Z hZ => ?_)
    have b0 : Z.cell? ⟨BB, 0, none⟩ = some (.int .u16 D.total) := cell_heap hZ.box (o := 0) rfl
    have f0 := frozen_heap hZ.box (o := 0)
    have lBZ := heap_lt hZ.box
    have hwt : IntKind.u16.wrap (D.total + 2) = D.total + 2 := by obtain ⟨q1, q2, q3, q4, q5, q6, q7, q8, qs, qd⟩ := Hq.out; exact wrap16 (by omega) (by omega)
    have HZ := hide hZ
    clear hZ
    go_upto_region 67 with (fail)
    obtain ⟨q1, q2, q3, q4, q5, q6, q7, q8, qs, qd⟩ := Hq.out
    have hE : EndC w _ BB n1 cI (some ⟨gI, 0, none⟩) { D with total := D.total + 2 } (I.set i (l.set j { p.a with extra := p.a.extra ++ [2, 1] })) := H.out.endAlt (D' := { D with total := D.total + 2 }) (p' := ⟨{ p.a with extra := p.a.extra ++ [2, 1] }, .slice A9 (nX + 2) c9, p.E⟩) (HZ.out.setBox (D' := { D with total := D.total + 2 }) (o := 0) (u := .int .u16 (D.total + 2)) (by decide) rfl) (by obtain ⟨o1, o2, o3, o4, o5⟩ := qd; exact ⟨(by unfold u16k; simp only; omega), o2, o3, o4, o5⟩)
    refine chk_tail hE.kept hE.box hE.cfg hE.len (by have h1 := size_at (D := D) (D' := { D with total := D.total + 2 }) (a' := { p.a with extra := p.a.extra ++ [2, 1] }) H.out.hl H.out.ha; have h2 : altSize { p.a with extra := p.a.extra ++ [2, 1] } = altSize p.a + 2 := (by unfold altSize; simp; omega); omega) (bad_extra H.out.chk H.out.hl H.out.ha (t := [2, 1]) (by simp; omega) (fun x hx => extra_two hx (by decide))) HT.out _ ?_
    assumption
set_option maxRecDepth 1000000 in
set_option maxHeartbeats 16000000 in
theorem chk_8_1 {u0 u1 u3 u4 u5 u6 u12 u13 u14 u15 u16 u17 u18 u19 u20 u21 u22 u23 u24 u25 u26 u27 u28 u29 u30 u31 u32 u33 u34 u35 u36 u37 u38 u39 u40 u41 u42 u43 u44 u45 u46 u47 u48 u49 u50 u51 u52 u53 u54 u55 u56 u57 u58 u59 u60 u61 u62 u63 u64 u65 u66 u67 u68 u69 u70 u71 u72 u73 u74 u75 u76 u77 u78 u79 u80 u81 u82 u83 u84 u85 u86 u87 u88 u89 u90 u91 u92 u93 u94 u95 u96 u97 u98 u99 u100 u101 u102 u103 u104 u105 u106 u107 u108 u109 u110 u111 u112 u113 u114 u115 u116 u117 u118 u119 u120 u121 u122 u123 u124 u125 u126 u127 u128 u129 u130 u131 u132 u133 u134 u135 u136 u137 u138 u139 u140 u141 u142 u143 u144 u145 u146 u147 u148 u149 u150 u151 u152 u153 u154 u155 u156 u157 u158 u159 u160 u161 u162 u163 u164 u165 u166 u167 u168 u169 u170 u171 u172 u173 u174 u175 u176 u177 u178 u179 u180 u181 u182 u183 u184 u185 u186 u187 u188 u189 u190 u191 u192 u193 u194 u195 u196 u197 u198 u199 u200 u201 u202 u203 u204 u205 u206 u207 u208 u209 u210 u211 u212 u213 u214 u215 u216 u217 u218 u219 u220 u221 u222 u223 u224 u225 u226 u227 u228 u229 u230 u231 u232 u233 u234 u235 u236 u237 u238 u239 u240 u241 u242 u243 u244 u245 u246 u247 u248 u249 u250 u251 u252 u253 u254 u255 u256 u257 u258 u259 u260 u261 u262 u263 u264 u265 u266 u267 u268 u269 u270 u271 u272 u273 u274 u275 u276 u277 u278 u279 u280 u281 u282 u283 u284 u285 u286 u287 u288 u289 u290 u291 u292 u293 u294 u295 u296 u297 u298 u299 u300 u301 u302 u303 u304 u305 u306 u307 u308 u309 u310 u311 u312 u313 u314 u315 u316 u317 u318 u319 u320 u321 u322 u323 u324 u325 u326 u327 u328 u329 u330 u331 u332 u333 u334 u335 u336 u337 u338 u339 u340 u341 u342 u343 u344 u345 u346 u347 u348 u349 u350 u351 u352 u353 u354 u355 u356 u357 u358 u359 u360 u361 u362 u363 u364 u365 u366 u367 u368 u369 u370 u371 u372 u373 u374 u375 u376 : Value} {w Y : World} {S BB gI g n1 cI m cA i j : Nat} {D : CfgD} {I : List (List Alt)} {l : List Alt} {L : List LF} {y : LF} {p : LA} {what : Int} (h : CK w Y S BB gI g n1 cI m cA i j D I l L y p) (hw : u8k what) (h16 : what % 16 = 8) (hr : what / 16 % 4 = 1) (hT : Tabs w)
    (K K2 : Act → World → Prop) (hK : ∀ a w', Code.wp Tryd.prog (restC code8) (Exit.then K2 (bodyPost Tryd.prog Tryd.f6 fun e w' => e = .returned (.bool true) ∧ Kept w w')) a w' → K a w') (hK2 : ∀ a w', Code.wp Tryd.prog code67 (bodyPost Tryd.prog Tryd.f6 fun e w' => e = .returned (.bool true) ∧ Kept w w') a w' → K2 a w') :
    Code.wp Tryd.prog (headC code8) (Exit.then K (Exit.then K2 (bodyPost Tryd.prog Tryd.f6 fun e w' => e = .returned (.bool true) ∧ Kept w w'))) ⟨#[u0, u1, .int .u8 what, u3, u4, u5, u6, .pointer (some ⟨BB, 0, none⟩), .int .i64 (i : Int), .int .i64 (j : Int), .pointer (some ⟨g, j * 9, none⟩), .int .i64 1, u12, u13, u14, u15, u16, u17, u18, u19, u20, u21, u22, u23, u24, u25, u26, u27, u28, u29, u30, u31, u32, u33, u34, u35, u36, u37, u38, u39, u40, u41, u42, u43, u44, u45, u46, u47, u48, u49, u50, u51, u52, u53, u54, u55, u56, u57, u58, u59, u60, u61, u62, u63, u64, u65, u66, u67, u68, u69, u70, u71, u72, u73, u74, u75, u76, u77, u78, u79, u80, u81, u82, u83, u84, u85, u86, u87, u88, u89, u90, u91, u92, u93, u94, u95, u96, u97, u98, u99, u100, u101, u102, u103, u104, u105, u106, u107, u108, u109, u110, u111, u112, u113, u114, u115, u116, u117, u118, u119, u120, u121, u122, u123, u124, u125, u126, u127, u128, u129, u130, u131, u132, u133, u134, u135, u136, u137, u138, u139, u140, u141, u142, u143, u144, u145, u146, u147, u148, u149, u150, u151, u152, u153, u154, u155, u156, u157, u158, u159, u160, u161, u162, u163, u164, u165, u166, u167, u168, u169, u170, u171, u172, u173, u174, u175, u176, u177, u178, u179, u180, u181, u182, u183, u184, u185, u186, u187, u188, u189, u190, u191, u192, u193, u194, u195, u196, u197, u198, u199, u200, u201, u202, u203, u204, u205, u206, u207, u208, u209, u210, u211, u212, u213, u214, u215, u216, u217, u218, u219, u220, u221, u222, u223, u224, u225, u226, u227, u228, u229, u230, u231, u232, u233, u234, u235, u236, u237, u238, u239, u240, u241, u242, u243, u244, u245, u246, u247, u248, u249, u250, u251, u252, u253, u254, u255, u256, u257, u258, u259, u260, u261, u262, u263, u264, u265, u266, u267, u268, u269, u270, u271, u272, u273, u274, u275, u276, u277, u278, u279, u280, u281, u282, u283, u284, u285, u286, u287, u288, u289, u290, u291, u292, u293, u294, u295, u296, u297, u298, u299, u300, u301, u302, u303, u304, u305, u306, u307, u308, u309, u310, u311, u312, u313, u314, u315, u316, u317, u318, u319, u320, u321, u322, u323, u324, u325, u326, u327, u328, u329, u330, u331, u332, u333, u334, u335, u336, u337, u338, u339, u340, u341, u342, u343, u344, u345, u346, u347, u348, u349, u350, u351, u352, u353, u354, u355, u356, u357, u358, u359, u360, u361, u362, u363, u364, u365, u366, u367, u368, u369, u370, u371, u372, u373, u374, u375, u376], []⟩ Y := by
  obtain ⟨hw0, hw1⟩ := hw
  have hm16 : what.tmod 16 = 8 := by rw [Int.tmod_eq_emod_of_nonneg hw0]; exact h16
  obtain ⟨q1, q2, q3, q4, q5, q6, q7, q8⟩ := h.nums
  have qs := h.size
  have qd := h.ok.1
  have hB : Y.heap[BB]? = some (.cells #[.int .u16 D.total, .int .u8 D.ifs, .int .u8 D.number, .int .u8 D.text, .bool D.self, .bool D.wake, .int .u8 D.power, .slice (some ⟨gI, 0, none⟩) n1 cI] 32 (0, 0)) := h.mid.box
  obtain ⟨cur, hA⟩ := h.heapA
  have lB := heap_lt hB
  have lg := heap_lt hA
  have hk := h.mid.kept
  have hkS := hk.size
  obtain ⟨i8, hi8, h80, h81, h82⟩ := info_parts info5
  obtain ⟨iE, hiE, hE0, hE1, hE2⟩ := info_parts infoEp
  obtain ⟨iI, hiI, hI0, hI1, hI2⟩ := info_parts infoIf
  obtain ⟨iA, hiA, hA0, hA1, hA2⟩ := info_parts infoAlt
  have hX := h.rows.1
  obtain ⟨XX, cX, hXX, hx1, hx2⟩ := hX.isSlice
  have c7 : Y.cell? ⟨g, j * 9 + 7, none⟩ = some p.X := h.cells 7 _ rfl
  obtain ⟨nX, hnX⟩ : ∃ nX, p.a.extra.length = nX := ⟨_, rfl⟩
  have hnX2 : nX ≤ 3129 := by have h5 := h.psize; unfold altSize at h5; omega
  rw [hXX, hnX] at hX c7
  rw [hnX] at hXX
  have f7 := frozen_heap hA (o := j * 9 + 7)
  have HX := hide hX
  have HXX := hide hXX
  have HnX := hide hnX
  have HgX := hide h.neX
  have hSY : S ≤ Y.heap.size := by have := h.mid.low; omega
  clear hX hXX hnX
  have hq16 : what.tdiv 16 = what / 16 := Int.tdiv_eq_ediv_of_nonneg hw0
  obtain ⟨qq, hqq⟩ : ∃ qq, what / 16 = qq := ⟨_, rfl⟩
  have hqn : 0 ≤ qq := by omega
  have hqm : qq ≤ 15 := by omega
  rw [hqq] at hq16
  have hwq : IntKind.u8.wrap qq = qq := wrap8 hqn (by omega)
  have hr4 : qq.tmod 4 = 1 := by rw [Int.tmod_eq_emod_of_nonneg hqn, ← hqq]; exact hr
  clear hqq hr
  have H := hide h
  have HT := hide hT
  have HB := hide hB
  have HA := hide hA
  have Hq := hide (⟨q1, q2, q3, q4, q5, q6, q7, q8, qs, qd⟩ : D.total = (sizeS ⟨D, I⟩ : Int) ∧ D.ifs = (n1 : Int) ∧ p.a.d.num = (i : Int) ∧ p.a.d.alt = (j : Int) ∧ p.a.d.eps = (p.a.eps.length : Int) ∧ i < 6 ∧ j < 16 ∧ p.a.eps.length ≤ 30 ∧ sizeS ⟨D, I⟩ ≤ 3129 ∧ D.ok)
  clear h hT hB hA h16 q1 q2 q3 q4 q5 q6 q7 q8 qs qd hk hkS
  conv => arg 2; whnf
  conv at hK => enter [a, w', 1, 2]; whnf
  conv at hK2 => enter [a, w', 1, 2]; whnf
  go_upto_region 35 with (fail)
  go_region_law (refine step_append_sl (T := u8T) rfl (.tmp 149) (.tmp 156) 34 rfl S 5 i8 _ 1 Tryd.underlying34 hi8 h80 h81 h82 rfl (by exact Nat.one_pos) _ nX p.a.extra (by rfl) ((HX.out.drew.alloc _).alloc _) (some ⟨Y.heap.size + 1, 0, none⟩) 2 2 [2, 2] (by rfl) (by exact sl_lit8 (l := [2, 2]) (heap_at _ (by first | rfl | simp)) ⟨by simp, fun e => by have := (HX.out.lt e).2; omega⟩ (by intro z hz; unfold u8k; simp at hz; omega)) (by_one8 _ _) (by unfold maxLen; omega) (by omega) (by simp; omega) ?_; intro v9 w9 hown9 hg9 hb9 hat9; obtain ⟨A9, c9, rfl, h91, h92⟩ := hown9.isSlice; have hg9' := hg9; rw [← HXX.out] at hg9'; have hA9 := heap_grown hg9' ((heap_past (heap_past HA.out))) (fun e => HgX.out e.symm); have c79 : w9.cell? ⟨g, j * 9 + 7, none⟩ = some (.slice XX nX cX) := (cell_of_row _ _ _ _ _ _ hA9).trans ((cell_of_row _ _ _ _ _ _ HA.out).symm.trans c7); have f79 := frozen_heap hA9 (o := j * 9 + 7); have lg9 := heap_lt hA9)
  all_goals
    have hm1 := (H.out.mid.keep (show Kept Y ((Y.drew.alloc (.cells #[.int .u8 1, .int .u8 2, .int .u8 4, .int .u8 5] 5)).alloc (.cells #[.int .u8 2, .int .u8 2] 5)) from (((Below.refl _ Y).drew).alloc (by exact Nat.le_refl _) _).alloc (by rw [World.size_alloc]; exact Nat.le_succ _) _)).extra H.out.y H.out.p H.out.own H.out.pok.1 (X' := .slice A9 (nX + 2) c9) (ex' := p.a.extra ++ [2, 2]) hg9' (by rw [List.length_append, HnX.out]; exact hown9) (hat9.elim (fun h => .inl (by rw [HXX.out]; exact h)) (fun h => .inr ⟨_, h, Nat.le_refl _⟩))
    have HM := hide hm1
    clear hm1 hown9 hg9 hg9' hb9 hat9 hA9 c79 f79 lg9
  all_goals
    go_upto_region 36 with (fail)
    refine wp_at (fun Z => MidC w Z S BB (.slice (some ⟨gI, 0, none⟩) n1 cI) D (L.set i ⟨y.alts.set j ⟨{ p.a with extra := p.a.extra ++ [2, 2] }, .slice A9 (nX + 2) c9, p.E⟩, y.v⟩)) (by first | exact HM.out | exact HM.out.keep (Below.refl _ _).drew) (fun Z hZ => ?_)
    have b0 : Z.cell? ⟨BB, 0, none⟩ = some (.int .u16 D.total) := cell_heap hZ.box (o := 0) rfl
    have f0 := frozen_heap hZ.box (o := 0)
    have lBZ := heap_lt hZ.box
    have hwt : IntKind.u16.wrap (D.total + 2) = D.total + 2 := by obtain ⟨q1, q2, q3, q4, q5, q6, q7, q8, qs, qd⟩ := Hq.out; exact wrap16 (by omega) (by omega)
    have HZ := hide hZ
    clear hZ
    go_upto_region 67 with (fail)
    obtain ⟨q1, q2, q3, q4, q5, q6, q7, q8, qs, qd⟩ := Hq.out
    have hE : EndC w _ BB n1 cI (some ⟨gI, 0, none⟩) { D with total := D.total + 2 } (I.set i (l.set j { p.a with extra := p.a.extra ++ [2, 2] })) := H.out.endAlt (D' := { D with total := D.total + 2 }) (p' := ⟨{ p.a with extra := p.a.extra ++ [2, 2] }, .slice A9 (nX + 2) c9, p.E⟩) (HZ.out.setBox (D' := { D with total := D.total + 2 }) (o := 0) (u := .int .u16 (D.total + 2)) (by decide) rfl) (by obtain ⟨o1, o2, o3, o4, o5⟩ := qd; exact ⟨(by unfold u16k; simp only; omega), o2, o3, o4, o5⟩)
    refine chk_tail hE.kept hE.box hE.cfg hE.len (by have h1 := size_at (D := D) (D' := { D with total := D.total + 2 }) (a' := { p.a with extra := p.a.extra ++ [2, 2] }) H.out.hl H.out.ha; have h2 : altSize { p.a with extra := p.a.extra ++ [2, 2] } = altSize p.a + 2 := (by unfold altSize; simp; omega); omega) (bad_extra H.out.chk H.out.hl H.out.ha (t := [2, 2]) (by simp; omega) (fun x hx => extra_two hx (by decide))) HT.out _ ?_
    assumption
set_option maxRecDepth 1000000 in
set_option maxHeartbeats 16000000 in
theorem chk_8_2 {u0 u1 u3 u4 u5 u6 u12 u13 u14 u15 u16 u17 u18 u19 u20 u21 u22 u23 u24 u25 u26 u27 u28 u29 u30 u31 u32 u33 u34 u35 u36 u37 u38 u39 u40 u41 u42 u43 u44 u45 u46 u47 u48 u49 u50 u51 u52 u53 u54 u55 u56 u57 u58 u59 u60 u61 u62 u63 u64 u65 u66 u67 u68 u69 u70 u71 u72 u73 u74 u75 u76 u77 u78 u79 u80 u81 u82 u83 u84 u85 u86 u87 u88 u89 u90 u91 u92 u93 u94 u95 u96 u97 u98 u99 u100 u101 u102 u103 u104 u105 u106 u107 u108 u109 u110 u111 u112 u113 u114 u115 u116 u117 u118 u119 u120 u121 u122 u123 u124 u125 u126 u127 u128 u129 u130 u131 u132 u133 u134 u135 u136 u137 u138 u139 u140 u141 u142 u143 u144 u145 u146 u147 u148 u149 u150 u151 u152 u153 u154 u155 u156 u157 u158 u159 u160 u161 u162 u163 u164 u165 u166 u167 u168 u169 u170 u171 u172 u173 u174 u175 u176 u177 u178 u179 u180 u181 u182 u183 u184 u185 u186 u187 u188 u189 u190 u191 u192 u193 u194 u195 u196 u197 u198 u199 u200 u201 u202 u203 u204 u205 u206 u207 u208 u209 u210 u211 u212 u213 u214 u215 u216 u217 u218 u219 u220 u221 u222 u223 u224 u225 u226 u227 u228 u229 u230 u231 u232 u233 u234 u235 u236 u237 u238 u239 u240 u241 u242 u243 u244 u245 u246 u247 u248 u249 u250 u251 u252 u253 u254 u255 u256 u257 u258 u259 u260 u261 u262 u263 u264 u265 u266 u267 u268 u269 u270 u271 u272 u273 u274 u275 u276 u277 u278 u279 u280 u281 u282 u283 u284 u285 u286 u287 u288 u289 u290 u291 u292 u293 u294 u295 u296 u297 u298 u299 u300 u301 u302 u303 u304 u305 u306 u307 u308 u309 u310 u311 u312 u313 u314 u315 u316 u317 u318 u319 u320 u321 u322 u323 u324 u325 u326 u327 u328 u329 u330 u331 u332 u333 u334 u335 u336 u337 u338 u339 u340 u341 u342 u343 u344 u345 u346 u347 u348 u349 u350 u351 u352 u353 u354 u355 u356 u357 u358 u359 u360 u361 u362 u363 u364 u365 u366 u367 u368 u369 u370 u371 u372 u373 u374 u375 u376 : Value} {w Y : World} {S BB gI g n1 cI m cA i j : Nat} {D : CfgD} {I : List (List Alt)} {l : List Alt} {L : List LF} {y : LF} {p : LA} {what : Int} (h : CK w Y S BB gI g n1 cI m cA i j D I l L y p) (hw : u8k what) (h16 : what % 16 = 8) (hr : what / 16 % 4 = 2) (hT : Tabs w)
    (K K2 : Act → World → Prop) (hK : ∀ a w', Code.wp Tryd.prog (restC code8) (Exit.then K2 (bodyPost Tryd.prog Tryd.f6 fun e w' => e = .returned (.bool true) ∧ Kept w w')) a w' → K a w') (hK2 : ∀ a w', Code.wp Tryd.prog code67 (bodyPost Tryd.prog Tryd.f6 fun e w' => e = .returned (.bool true) ∧ Kept w w') a w' → K2 a w') :
    Code.wp Tryd.prog (headC code8) (Exit.then K (Exit.then K2 (bodyPost Tryd.prog Tryd.f6 fun e w' => e = .returned (.bool true) ∧ Kept w w'))) ⟨#[u0, u1, .int .u8 what, u3, u4, u5, u6, .pointer (some ⟨BB, 0, none⟩), .int .i64 (i : Int), .int .i64 (j : Int), .pointer (some ⟨g, j * 9, none⟩), .int .i64 1, u12, u13, u14, u15, u16, u17, u18, u19, u20, u21, u22, u23, u24, u25, u26, u27, u28, u29, u30, u31, u32, u33, u34, u35, u36, u37, u38, u39, u40, u41, u42, u43, u44, u45, u46, u47, u48, u49, u50, u51, u52, u53, u54, u55, u56, u57, u58, u59, u60, u61, u62, u63, u64, u65, u66, u67, u68, u69, u70, u71, u72, u73, u74, u75, u76, u77, u78, u79, u80, u81, u82, u83, u84, u85, u86, u87, u88, u89, u90, u91, u92, u93, u94, u95, u96, u97, u98, u99, u100, u101, u102, u103, u104, u105, u106, u107, u108, u109, u110, u111, u112, u113, u114, u115, u116, u117, u118, u119, u120, u121, u122, u123, u124, u125, u126, u127, u128, u129, u130, u131, u132, u133, u134, u135, u136, u137, u138, u139, u140, u141, u142, u143, u144, u145, u146, u147, u148, u149, u150, u151, u152, u153, u154, u155, u156, u157, u158, u159, u160, u161, u162, u163, u164, u165, u166, u167, u168, u169, u170, u171, u172, u173, u174, u175, u176, u177, u178, u179, u180, u181, u182, u183, u184, u185, u186, u187, u188, u189, u190, u191, u192, u193, u194, u195, u196, u197, u198, u199, u200, u201, u202, u203, u204, u205, u206, u207, u208, u209, u210, u211, u212, u213, u214, u215, u216, u217, u218, u219, u220, u221, u222, u223, u224, u225, u226, u227, u228, u229, u230, u231, u232, u233, u234, u235, u236, u237, u238, u239, u240, u241, u242, u243, u244, u245, u246, u247, u248, u249, u250, u251, u252, u253, u254, u255, u256, u257, u258, u259, u260, u261, u262, u263, u264, u265, u266, u267, u268, u269, u270, u271, u272, u273, u274, u275, u276, u277, u278, u279, u280, u281, u282, u283, u284, u285, u286, u287, u288, u289, u290, u291, u292, u293, u294, u295, u296, u297, u298, u299, u300, u301, u302, u303, u304, u305, u306, u307, u308, u309, u310, u311, u312, u313, u314, u315, u316, u317, u318, u319, u320, u321, u322, u323, u324, u325, u326, u327, u328, u329, u330, u331, u332, u333, u334, u335, u336, u337, u338, u339, u340, u341, u342, u343, u344, u345, u346, u347, u348, u349, u350, u351, u352, u353, u354, u355, u356, u357, u358, u359, u360, u361, u362, u363, u364, u365, u366, u367, u368, u369, u370, u371, u372, u373, u374, u375, u376], []⟩ Y := by
  obtain ⟨hw0, hw1⟩ := hw
  have hm16 : what.tmod 16 = 8 := by rw [Int.tmod_eq_emod_of_nonneg hw0]; exact h16
  obtain ⟨q1, q2, q3, q4, q5, q6, q7, q8⟩ := h.nums
  have qs := h.size
  have qd := h.ok.1
  have hB : Y.heap[BB]? = some (.cells #[.int .u16 D.total, .int .u8 D.ifs, .int .u8 D.number, .int .u8 D.text, .bool D.self, .bool D.wake, .int .u8 D.power, .slice (some ⟨gI, 0, none⟩) n1 cI] 32 (0, 0)) := h.mid.box
  obtain ⟨cur, hA⟩ := h.heapA
  have lB := heap_lt hB
  have lg := heap_lt hA
  have hk := h.mid.kept
  have hkS := hk.size
  obtain ⟨i8, hi8, h80, h81, h82⟩ := info_parts info5
  obtain ⟨iE, hiE, hE0, hE1, hE2⟩ := info_parts infoEp
  obtain ⟨iI, hiI, hI0, hI1, hI2⟩ := info_parts infoIf
  obtain ⟨iA, hiA, hA0, hA1, hA2⟩ := info_parts infoAlt
  have hX := h.rows.1
  obtain ⟨XX, cX, hXX, hx1, hx2⟩ := hX.isSlice
  have c7 : Y.cell? ⟨g, j * 9 + 7, none⟩ = some p.X := h.cells 7 _ rfl
  obtain ⟨nX, hnX⟩ : ∃ nX, p.a.extra.length = nX := ⟨_, rfl⟩
  have hnX2 : nX ≤ 3129 := by have h5 := h.psize; unfold altSize at h5; omega
  rw [hXX, hnX] at hX c7
  rw [hnX] at hXX
  have f7 := frozen_heap hA (o := j * 9 + 7)
  have HX := hide hX
  have HXX := hide hXX
  have HnX := hide hnX
  have HgX := hide h.neX
  have hSY : S ≤ Y.heap.size := by have := h.mid.low; omega
  clear hX hXX hnX
  have hq16 : what.tdiv 16 = what / 16 := Int.tdiv_eq_ediv_of_nonneg hw0
  obtain ⟨qq, hqq⟩ : ∃ qq, what / 16 = qq := ⟨_, rfl⟩
  have hqn : 0 ≤ qq := by omega
  have hqm : qq ≤ 15 := by omega
  rw [hqq] at hq16
  have hwq : IntKind.u8.wrap qq = qq := wrap8 hqn (by omega)
  have hr4 : qq.tmod 4 = 2 := by rw [Int.tmod_eq_emod_of_nonneg hqn, ← hqq]; exact hr
  clear hqq hr
  have H := hide h
  have HT := hide hT
  have HB := hide hB
  have HA := hide hA
  have Hq := hide (⟨q1, q2, q3, q4, q5, q6, q7, q8, qs, qd⟩ : D.total = (sizeS ⟨D, I⟩ : Int) ∧ D.ifs = (n1 : Int) ∧ p.a.d.num = (i : Int) ∧ p.a.d.alt = (j : Int) ∧ p.a.d.eps = (p.a.eps.length : Int) ∧ i < 6 ∧ j < 16 ∧ p.a.eps.length ≤ 30 ∧ sizeS ⟨D, I⟩ ≤ 3129 ∧ D.ok)
  clear h hT hB hA h16 q1 q2 q3 q4 q5 q6 q7 q8 qs qd hk hkS
  conv => arg 2; whnf
  conv at hK => enter [a, w', 1, 2]; whnf
  conv at hK2 => enter [a, w', 1, 2]; whnf
  go_upto_region 35 with (fail)
  go_region_law (refine step_append_sl (T := u8T) rfl (.tmp 149) (.tmp 156) 34 rfl S 5 i8 _ 1 Tryd.underlying34 hi8 h80 h81 h82 rfl (by exact Nat.one_pos) _ nX p.a.extra (by rfl) ((HX.out.drew.alloc _).alloc _) (some ⟨Y.heap.size + 1, 0, none⟩) 2 2 [2, 4] (by rfl) (by exact sl_lit8 (l := [2, 4]) (heap_at _ (by first | rfl | simp)) ⟨by simp, fun e => by have := (HX.out.lt e).2; omega⟩ (by intro z hz; unfold u8k; simp at hz; omega)) (by_one8 _ _) (by unfold maxLen; omega) (by omega) (by simp; omega) ?_; intro v9 w9 hown9 hg9 hb9 hat9; obtain ⟨A9, c9, rfl, h91, h92⟩ := hown9.isSlice; have hg9' := hg9; rw [← HXX.out] at hg9'; have hA9 := heap_grown hg9' ((heap_past (heap_past HA.out))) (fun e => HgX.out e.symm); have c79 : w9.cell? ⟨g, j * 9 + 7, none⟩ = some (.slice XX nX cX) := (cell_of_row _ _ _ _ _ _ hA9).trans ((cell_of_row _ _ _ _ _ _ HA.out).symm.trans c7); have f79 := frozen_heap hA9 (o := j * 9 + 7); have lg9 := heap_lt hA9)
  all_goals
    have hm1 := (H.out.mid.keep (show Kept Y ((Y.drew.alloc (.cells #[.int .u8 1, .int .u8 2, .int .u8 4, .int .u8 5] 5)).alloc (.cells #[.int .u8 2, .int .u8 4] 5)) from (((Below.refl _ Y).drew).alloc (by exact Nat.le_refl _) _).alloc (by rw [World.size_alloc]; exact Nat.le_succ _) _)).extra H.out.y H.out.p H.out.own H.out.pok.1 (X' := .slice A9 (nX + 2) c9) (ex' := p.a.extra ++ [2, 4]) hg9' (by rw [List.length_append, HnX.out]; exact hown9) (hat9.elim (fun h => .inl (by rw [HXX.out]; exact h)) (fun h => .inr ⟨_, h, Nat.le_refl _⟩))
    have HM := hide hm1
    clear hm1 hown9 hg9 hg9' hb9 hat9 hA9 c79 f79 lg9
  all_goals
    go_upto_region 36 with (fail)
    refine wp_at (fun Z => MidC w Z S BB (.slice (some ⟨gI, 0, none⟩) n1 cI) D (L.set i ⟨y.alts.set j ⟨{ p.a with extra := p.a.extra ++ [2, 4] }, .slice A9 (nX + 2) c9, p.E⟩, y.v⟩)) (by first | exact HM.out | exact HM.out.keep (Below.refl _ _).drew) (fun Z hZ => ?_)
    have b0 : Z.cell? ⟨BB, 0, none⟩ = some (.int .u16 D.total) := cell_heap hZ.box (o := 0) rfl
    have f0 := frozen_heap hZ.box (o := 0)
    have lBZ := heap_lt hZ.box
    have hwt : IntKind.u16.wrap (D.total + 2) = D.total + 2 := by obtain ⟨q1, q2, q3, q4, q5, q6, q7, q8, qs, qd⟩ := Hq.out; exact wrap16 (by omega) (by omega)
    have HZ := hide hZ
    clear hZ
    go_upto_region 67 with (fail)
    obtain ⟨q1, q2, q3, q4, q5, q6, q7, q8, qs, qd⟩ := Hq.out
    have hE : EndC w _ BB n1 cI (some ⟨gI, 0, none⟩) { D with total := D.total + 2 } (I.set i (l.set j { p.a with extra := p.a.extra ++ [2, 4] })) := H.out.endAlt (D' := { D with total := D.total + 2 }) (p' := ⟨{ p.a with extra := p.a.extra ++ [2, 4] }, .slice A9 (nX + 2) c9, p.E⟩) (HZ.out.setBox (D' := { D with total := D.total + 2 }) (o := 0) (u := .int .u16 (D.total + 2)) (by decide) rfl) (by obtain ⟨o1, o2, o3, o4, o5⟩ := qd; exact ⟨(by unfold u16k; simp only; omega), o2, o3, o4, o5⟩)
    refine chk_tail hE.kept hE.box hE.cfg hE.len (by have h1 := size_at (D := D) (D' := { D with total := D.total + 2 }) (a' := { p.a with extra := p.a.extra ++ [2, 4] }) H.out.hl H.out.ha; have h2 : altSize { p.a with extra := p.a.extra ++ [2, 4] } = altSize p.a + 2 := (by unfold altSize; simp; omega); omega) (bad_extra H.out.chk H.out.hl H.out.ha (t := [2, 4]) (by simp; omega) (fun x hx => extra_two hx (by decide))) HT.out _ ?_
    assumption
set_option maxRecDepth 1000000 in
set_option maxHeartbeats 16000000 in
theorem chk_8_3 {u0 u1 u3 u4 u5 u6 u12 u13 u14 u15 u16 u17 u18 u19 u20 u21 u22 u23 u24 u25 u26 u27 u28 u29 u30 u31 u32 u33 u34 u35 u36 u37 u38 u39 u40 u41 u42 u43 u44 u45 u46 u47 u48 u49 u50 u51 u52 u53 u54 u55 u56 u57 u58 u59 u60 u61 u62 u63 u64 u65 u66 u67 u68 u69 u70 u71 u72 u73 u74 u75 u76 u77 u78 u79 u80 u81 u82 u83 u84 u85 u86 u87 u88 u89 u90 u91 u92 u93 u94 u95 u96 u97 u98 u99 u100 u101 u102 u103 u104 u105 u106 u107 u108 u109 u110 u111 u112 u113 u114 u115 u116 u117 u118 u119 u120 u121 u122 u123 u124 u125 u126 u127 u128 u129 u130 u131 u132 u133 u134 u135 u136 u137 u138 u139 u140 u141 u142 u143 u144 u145 u146 u147 u148 u149 u150 u151 u152 u153 u154 u155 u156 u157 u158 u159 u160 u161 u162 u163 u164 u165 u166 u167 u168 u169 u170 u171 u172 u173 u174 u175 u176 u177 u178 u179 u180 u181 u182 u183 u184 u185 u186 u187 u188 u189 u190 u191 u192 u193 u194 u195 u196 u197 u198 u199 u200 u201 u202 u203 u204 u205 u206 u207 u208 u209 u210 u211 u212 u213 u214 u215 u216 u217 u218 u219 u220 u221 u222 u223 u224 u225 u226 u227 u228 u229 u230 u231 u232 u233 u234 u235 u236 u237 u238 u239 u240 u241 u242 u243 u244 u245 u246 u247 u248 u249 u250 u251 u252 u253 u254 u255 u256 u257 u258 u259 u260 u261 u262 u263 u264 u265 u266 u267 u268 u269 u270 u271 u272 u273 u274 u275 u276 u277 u278 u279 u280 u281 u282 u283 u284 u285 u286 u287 u288 u289 u290 u291 u292 u293 u294 u295 u296 u297 u298 u299 u300 u301 u302 u303 u304 u305 u306 u307 u308 u309 u310 u311 u312 u313 u314 u315 u316 u317 u318 u319 u320 u321 u322 u323 u324 u325 u326 u327 u328 u329 u330 u331 u332 u333 u334 u335 u336 u337 u338 u339 u340 u341 u342 u343 u344 u345 u346 u347 u348 u349 u350 u351 u352 u353 u354 u355 u356 u357 u358 u359 u360 u361 u362 u363 u364 u365 u366 u367 u368 u369 u370 u371 u372 u373 u374 u375 u376 : Value} {w Y : World} {S BB gI g n1 cI m cA i j : Nat} {D : CfgD} {I : List (List Alt)} {l : List Alt} {L : List LF} {y : LF} {p : LA} {what : Int} (h : CK w Y S BB gI g n1 cI m cA i j D I l L y p) (hw : u8k what) (h16 : what % 16 = 8) (hr : what / 16 % 4 = 3) (hT : Tabs w)
    (K K2 : Act → World → Prop) (hK : ∀ a w', Code.wp Tryd.prog (restC code8) (Exit.then K2 (bodyPost Tryd.prog Tryd.f6 fun e w' => e = .returned (.bool true) ∧ Kept w w')) a w' → K a w') (hK2 : ∀ a w', Code.wp Tryd.prog code67 (bodyPost Tryd.prog Tryd.f6 fun e w' => e = .returned (.bool true) ∧ Kept w w') a w' → K2 a w') :
    Code.wp Tryd.prog (headC code8) (Exit.then K (Exit.then K2 (bodyPost Tryd.prog Tryd.f6 fun e w' => e = .returned (.bool true) ∧ Kept w w'))) ⟨#[u0, u1, .int .u8 what, u3, u4, u5, u6, .pointer (some ⟨BB, 0, none⟩), .int .i64 (i : Int), .int .i64 (j : Int), .pointer (some ⟨g, j * 9, none⟩), .int .i64 1, u12, u13, u14, u15, u16, u17, u18, u19, u20, u21, u22, u23, u24, u25, u26, u27, u28, u29, u30, u31, u32, u33, u34, u35, u36, u37, u38, u39, u40, u41, u42, u43, u44, u45, u46, u47, u48, u49, u50, u51, u52, u53, u54, u55, u56, u57, u58, u59, u60, u61, u62, u63, u64, u65, u66, u67, u68, u69, u70, u71, u72, u73, u74, u75, u76, u77, u78, u79, u80, u81, u82, u83, u84, u85, u86, u87, u88, u89, u90, u91, u92, u93, u94, u95, u96, u97, u98, u99, u100, u101, u102, u103, u104, u105, u106, u107, u108, u109, u110, u111, u112, u113, u114, u115, u116, u117, u118, u119, u120, u121, u122, u123, u124, u125, u126, u127, u128, u129, u130, u131, u132, u133, u134, u135, u136, u137, u138, u139, u140, u141, u142, u143, u144, u145, u146, u147, u148, u149, u150, u151, u152, u153, u154, u155, u156, u157, u158, u159, u160, u161, u162, u163, u164, u165, u166, u167, u168, u169, u170, u171, u172, u173, u174, u175, u176, u177, u178, u179, u180, u181, u182, u183, u184, u185, u186, u187, u188, u189, u190, u191, u192, u193, u194, u195, u196, u197, u198, u199, u200, u201, u202, u203, u204, u205, u206, u207, u208, u209, u210, u211, u212, u213, u214, u215, u216, u217, u218, u219, u220, u221, u222, u223, u224, u225, u226, u227, u228, u229, u230, u231, u232, u233, u234, u235, u236, u237, u238, u239, u240, u241, u242, u243, u244, u245, u246, u247, u248, u249, u250, u251, u252, u253, u254, u255, u256, u257, u258, u259, u260, u261, u262, u263, u264, u265, u266, u267, u268, u269, u270, u271, u272, u273, u274, u275, u276, u277, u278, u279, u280, u281, u282, u283, u284, u285, u286, u287, u288, u289, u290, u291, u292, u293, u294, u295, u296, u297, u298, u299, u300, u301, u302, u303, u304, u305, u306, u307, u308, u309, u310, u311, u312, u313, u314, u315, u316, u317, u318, u319, u320, u321, u322, u323, u324, u325, u326, u327, u328, u329, u330, u331, u332, u333, u334, u335, u336, u337, u338, u339, u340, u341, u342, u343, u344, u345, u346, u347, u348, u349, u350, u351, u352, u353, u354, u355, u356, u357, u358, u359, u360, u361, u362, u363, u364, u365, u366, u367, u368, u369, u370, u371, u372, u373, u374, u375, u376], []⟩ Y := by
  obtain ⟨hw0, hw1⟩ := hw
  have hm16 : what.tmod 16 = 8 := by rw [Int.tmod_eq_emod_of_nonneg hw0]; exact h16
  obtain ⟨q1, q2, q3, q4, q5, q6, q7, q8⟩ := h.nums
  have qs := h.size
  have qd := h.ok.1
  have hB : Y.heap[BB]? = some (.cells #[.int .u16 D.total, .int .u8 D.ifs, .int .u8 D.number, .int .u8 D.text, .bool D.self, .bool D.wake, .int .u8 D.power, .slice (some ⟨gI, 0, none⟩) n1 cI] 32 (0, 0)) := h.mid.box
  obtain ⟨cur, hA⟩ := h.heapA
  have lB := heap_lt hB
  have lg := heap_lt hA
  have hk := h.mid.kept
  have hkS := hk.size
  obtain ⟨i8, hi8, h80, h81, h82⟩ := info_parts info5
  obtain ⟨iE, hiE, hE0, hE1, hE2⟩ := info_parts infoEp
  obtain ⟨iI, hiI, hI0, hI1, hI2⟩ := info_parts infoIf
  obtain ⟨iA, hiA, hA0, hA1, hA2⟩ := info_parts infoAlt
  have hX := h.rows.1
  obtain ⟨XX, cX, hXX, hx1, hx2⟩ := hX.isSlice
  have c7 : Y.cell? ⟨g, j * 9 + 7, none⟩ = some p.X := h.cells 7 _ rfl
  obtain ⟨nX, hnX⟩ : ∃ nX, p.a.extra.length = nX := ⟨_, rfl⟩
  have hnX2 : nX ≤ 3129 := by have h5 := h.psize; unfold altSize at h5; omega
  rw [hXX, hnX] at hX c7
  rw [hnX] at hXX
  have f7 := frozen_heap hA (o := j * 9 + 7)
  have HX := hide hX
  have HXX := hide hXX
  have HnX := hide hnX
  have HgX := hide h.neX
  have hSY : S ≤ Y.heap.size := by have := h.mid.low; omega
  clear hX hXX hnX
  have hq16 : what.tdiv 16 = what / 16 := Int.tdiv_eq_ediv_of_nonneg hw0
  obtain ⟨qq, hqq⟩ : ∃ qq, what / 16 = qq := ⟨_, rfl⟩
  have hqn : 0 ≤ qq := by omega
  have hqm : qq ≤ 15 := by omega
  rw [hqq] at hq16
  have hwq : IntKind.u8.wrap qq = qq := wrap8 hqn (by omega)
  have hr4 : qq.tmod 4 = 3 := by rw [Int.tmod_eq_emod_of_nonneg hqn, ← hqq]; exact hr
  clear hqq hr
  have H := hide h
  have HT := hide hT
  have HB := hide hB
  have HA := hide hA
  have Hq := hide (⟨q1, q2, q3, q4, q5, q6, q7, q8, qs, qd⟩ : D.total = (sizeS ⟨D, I⟩ : Int) ∧ D.ifs = (n1 : Int) ∧ p.a.d.num = (i : Int) ∧ p.a.d.alt = (j : Int) ∧ p.a.d.eps = (p.a.eps.length : Int) ∧ i < 6 ∧ j < 16 ∧ p.a.eps.length ≤ 30 ∧ sizeS ⟨D, I⟩ ≤ 3129 ∧ D.ok)
  clear h hT hB hA h16 q1 q2 q3 q4 q5 q6 q7 q8 qs qd hk hkS
  conv => arg 2; whnf
  conv at hK => enter [a, w', 1, 2]; whnf
  conv at hK2 => enter [a, w', 1, 2]; whnf
  go_upto_region 35 with (fail)
  go_region_law (refine step_append_sl (T := u8T) rfl (.tmp 149) (.tmp 156) 34 rfl S 5 i8 _ 1 Tryd.underlying34 hi8 h80 h81 h82 rfl (by exact Nat.one_pos) _ nX p.a.extra (by rfl) ((HX.out.drew.alloc _).alloc _) (some ⟨Y.heap.size + 1, 0, none⟩) 2 2 [2, 5] (by rfl) (by exact sl_lit8 (l := [2, 5]) (heap_at _ (by first | rfl | simp)) ⟨by simp, fun e => by have := (HX.out.lt e).2; omega⟩ (by intro z hz; unfold u8k; simp at hz; omega)) (by_one8 _ _) (by unfold maxLen; omega) (by omega) (by simp; omega) ?_; intro v9 w9 hown9 hg9 hb9 hat9; obtain ⟨A9, c9, rfl, h91, h92⟩ := hown9.isSlice; have hg9' := hg9; rw [← HXX.out] at hg9'; have hA9 := heap_grown hg9' ((heap_past (heap_past HA.out))) (fun e => HgX.out e.symm); have c79 : w9.cell? ⟨g, j * 9 + 7, none⟩ = some (.slice XX nX cX) := (cell_of_row _ _ _ _ _ _ hA9).trans ((cell_of_row _ _ _ _ _ _ HA.out).symm.trans c7); have f79 := frozen_heap hA9 (o := j * 9 + 7); have lg9 := heap_lt hA9)
  all_goals
    have hm1 := (H.out.mid.keep (show Kept Y ((Y.drew.alloc (.cells #[.int .u8 1, .int .u8 2, .int .u8 4, .int .u8 5] 5)).alloc (.cells #[.int .u8 2, .int .u8 5] 5)) from (((Below.refl _ Y).drew).alloc (by exact Nat.le_refl _) _).alloc (by rw [World.size_alloc]; exact Nat.le_succ _) _)).extra H.out.y H.out.p H.out.own H.out.pok.1 (X' := .slice A9 (nX + 2) c9) (ex' := p.a.extra ++ [2, 5]) hg9' (by rw [List.length_append, HnX.out]; exact hown9) (hat9.elim (fun h => .inl (by rw [HXX.out]; exact h)) (fun h => .inr ⟨_, h, Nat.le_refl _⟩))
    have HM := hide hm1
    clear hm1 hown9 hg9 hg9' hb9 hat9 hA9 c79 f79 lg9
  all_goals
    go_upto_region 36 with (fail)
    refine wp_at (fun Z => MidC w Z S BB (.slice (some ⟨gI, 0, none⟩) n1 cI) D (L.set i ⟨y.alts.set j ⟨{ p.a with extra := p.a.extra ++ [2, 5] }, .slice A9 (nX + 2) c9, p.E⟩, y.v⟩)) (by first | exact HM.out | exact HM.out.keep (Below.refl _ _).drew) (fun Z hZ => ?_)
    have b0 : Z.cell? ⟨BB, 0, none⟩ = some (.int .u16 D.total) := cell_heap hZ.box (o := 0) rfl
    have f0 := frozen_heap hZ.box (o := 0)
    have lBZ := heap_lt hZ.box
    have hwt : IntKind.u16.wrap (D.total + 2) = D.total + 2 := by obtain ⟨q1, q2, q3, q4, q5, q6, q7, q8, qs, qd⟩ := Hq.out; exact wrap16 (by omega) (by omega)
    have HZ := hide hZ
    clear hZ
    go_upto_region 67 with (fail)
    obtain ⟨q1, q2, q3, q4, q5, q6, q7, q8, qs, qd⟩ := Hq.out
    have hE : EndC w _ BB n1 cI (some ⟨gI, 0, none⟩) { D with total := D.total + 2 } (I.set i (l.set j { p.a with extra := p.a.extra ++ [2, 5] })) := H.out.endAlt (D' := { D with total := D.total + 2 }) (p' := ⟨{ p.a with extra := p.a.extra ++ [2, 5] }, .slice A9 (nX + 2) c9, p.E⟩) (HZ.out.setBox (D' := { D with total := D.total + 2 }) (o := 0) (u := .int .u16 (D.total + 2)) (by decide) rfl) (by obtain ⟨o1, o2, o3, o4, o5⟩ := qd; exact ⟨(by unfold u16k; simp only; omega), o2, o3, o4, o5⟩)
    refine chk_tail hE.kept hE.box hE.cfg hE.len (by have h1 := size_at (D := D) (D' := { D with total := D.total + 2 }) (a' := { p.a with extra := p.a.extra ++ [2, 5] }) H.out.hl H.out.ha; have h2 : altSize { p.a with extra := p.a.extra ++ [2, 5] } = altSize p.a + 2 := (by unfold altSize; simp; omega); omega) (bad_extra H.out.chk H.out.hl H.out.ha (t := [2, 5]) (by simp; omega) (fun x hx => extra_two hx (by decide))) HT.out _ ?_
    assumption
end Go.Proofs.YtjgncofhobhjdaaDoor
