/- The law Check: endpoints that are not valid, or twice in a setting. Printed by gen_ve.py. -/
import Derived.Test.YtjgncofhobhjdaaDoorChecked
import Derived.Deep.RegionHeld3
import Derived.Deep.DrawnRows
import Derived.Deep.DeepCutAuto
import Derived.Deep.LoopGhost
import Derived.Outline
import Derived.Handy
import Derived.OwnWalk
import Derived.BigQuiet
import Derived.Test.YtjgncofhobhjdaaDoorN30
set_option linter.unusedVariables false
set_option linter.unusedSimpArgs false
set_option linter.unusedSectionVars false
namespace Go.Proofs.YtjgncofhobhjdaaDoor
open Go.RowKit
attribute [local go_sem ↓] Go.wp_at_zero Go.wp_at_succ

set_option maxRecDepth 1000000 in
set_option maxHeartbeats 16000000 in
theorem chk_10 {u0 u1 u3 u4 u5 u6 u12 u13 u14 u15 u16 u17 u18 u19 u20 u21 u22 u23 u24 u25 u26 u27 u28 u29 u30 u31 u32 u33 u34 u35 u36 u37 u38 u39 u40 u41 u42 u43 u44 u45 u46 u47 u48 u49 u50 u51 u52 u53 u54 u55 u56 u57 u58 u59 u60 u61 u62 u63 u64 u65 u66 u67 u68 u69 u70 u71 u72 u73 u74 u75 u76 u77 u78 u79 u80 u81 u82 u83 u84 u85 u86 u87 u88 u89 u90 u91 u92 u93 u94 u95 u96 u97 u98 u99 u100 u101 u102 u103 u104 u105 u106 u107 u108 u109 u110 u111 u112 u113 u114 u115 u116 u117 u118 u119 u120 u121 u122 u123 u124 u125 u126 u127 u128 u129 u130 u131 u132 u133 u134 u135 u136 u137 u138 u139 u140 u141 u142 u143 u144 u145 u146 u147 u148 u149 u150 u151 u152 u153 u154 u155 u156 u157 u158 u159 u160 u161 u162 u163 u164 u165 u166 u167 u168 u169 u170 u171 u172 u173 u174 u175 u176 u177 u178 u179 u180 u181 u182 u183 u184 u185 u186 u187 u188 u189 u190 u191 u192 u193 u194 u195 u196 u197 u198 u199 u200 u201 u202 u203 u204 u205 u206 u207 u208 u209 u210 u211 u212 u213 u214 u215 u216 u217 u218 u219 u220 u221 u222 u223 u224 u225 u226 u227 u228 u229 u230 u231 u232 u233 u234 u235 u236 u237 u238 u239 u240 u241 u242 u243 u244 u245 u246 u247 u248 u249 u250 u251 u252 u253 u254 u255 u256 u257 u258 u259 u260 u261 u262 u263 u264 u265 u266 u267 u268 u269 u270 u271 u272 u273 u274 u275 u276 u277 u278 u279 u280 u281 u282 u283 u284 u285 u286 u287 u288 u289 u290 u291 u292 u293 u294 u295 u296 u297 u298 u299 u300 u301 u302 u303 u304 u305 u306 u307 u308 u309 u310 u311 u312 u313 u314 u315 u316 u317 u318 u319 u320 u321 u322 u323 u324 u325 u326 u327 u328 u329 u330 u331 u332 u333 u334 u335 u336 u337 u338 u339 u340 u341 u342 u343 u344 u345 u346 u347 u348 u349 u350 u351 u352 u353 u354 u355 u356 u357 u358 u359 u360 u361 u362 u363 u364 u365 u366 u367 u368 u369 u370 u371 u372 u373 u374 u375 u376 : Value} {w Y : World} {S BB gI g n1 cI m cA i j : Nat} {D : CfgD} {I : List (List Alt)} {l : List Alt} {L : List LF} {y : LF} {p : LA} {what : Int} (h : CK w Y S BB gI g n1 cI m cA i j D I l L y p) (hw : u8k what) (h16 : what % 16 = 10) (hT : Tabs w)
    (K K2 : Act → World → Prop) (hK : ∀ a w', Code.wp Tryd.prog (restC code8) (Exit.then K2 (bodyPost Tryd.prog Tryd.f6 fun e w' => e = .returned (.bool true) ∧ Kept w w')) a w' → K a w') (hK2 : ∀ a w', Code.wp Tryd.prog code67 (bodyPost Tryd.prog Tryd.f6 fun e w' => e = .returned (.bool true) ∧ Kept w w') a w' → K2 a w') :
    Code.wp Tryd.prog (headC code8) (Exit.then K (Exit.then K2 (bodyPost Tryd.prog Tryd.f6 fun e w' => e = .returned (.bool true) ∧ Kept w w'))) ⟨#[u0, u1, .int .u8 what, u3, u4, u5, u6, .pointer (some ⟨BB, 0, none⟩), .int .i64 (i : Int), .int .i64 (j : Int), .pointer (some ⟨g, j * 9, none⟩), .int .i64 1, u12, u13, u14, u15, u16, u17, u18, u19, u20, u21, u22, u23, u24, u25, u26, u27, u28, u29, u30, u31, u32, u33, u34, u35, u36, u37, u38, u39, u40, u41, u42, u43, u44, u45, u46, u47, u48, u49, u50, u51, u52, u53, u54, u55, u56, u57, u58, u59, u60, u61, u62, u63, u64, u65, u66, u67, u68, u69, u70, u71, u72, u73, u74, u75, u76, u77, u78, u79, u80, u81, u82, u83, u84, u85, u86, u87, u88, u89, u90, u91, u92, u93, u94, u95, u96, u97, u98, u99, u100, u101, u102, u103, u104, u105, u106, u107, u108, u109, u110, u111, u112, u113, u114, u115, u116, u117, u118, u119, u120, u121, u122, u123, u124, u125, u126, u127, u128, u129, u130, u131, u132, u133, u134, u135, u136, u137, u138, u139, u140, u141, u142, u143, u144, u145, u146, u147, u148, u149, u150, u151, u152, u153, u154, u155, u156, u157, u158, u159, u160, u161, u162, u163, u164, u165, u166, u167, u168, u169, u170, u171, u172, u173, u174, u175, u176, u177, u178, u179, u180, u181, u182, u183, u184, u185, u186, u187, u188, u189, u190, u191, u192, u193, u194, u195, u196, u197, u198, u199, u200, u201, u202, u203, u204, u205, u206, u207, u208, u209, u210, u211, u212, u213, u214, u215, u216, u217, u218, u219, u220, u221, u222, u223, u224, u225, u226, u227, u228, u229, u230, u231, u232, u233, u234, u235, u236, u237, u238, u239, u240, u241, u242, u243, u244, u245, u246, u247, u248, u249, u250, u251, u252, u253, u254, u255, u256, u257, u258, u259, u260, u261, u262, u263, u264, u265, u266, u267, u268, u269, u270, u271, u272, u273, u274, u275, u276, u277, u278, u279, u280, u281, u282, u283, u284, u285, u286, u287, u288, u289, u290, u291, u292, u293, u294, u295, u296, u297, u298, u299, u300, u301, u302, u303, u304, u305, u306, u307, u308, u309, u310, u311, u312, u313, u314, u315, u316, u317, u318, u319, u320, u321, u322, u323, u324, u325, u326, u327, u328, u329, u330, u331, u332, u333, u334, u335, u336, u337, u338, u339, u340, u341, u342, u343, u344, u345, u346, u347, u348, u349, u350, u351, u352, u353, u354, u355, u356, u357, u358, u359, u360, u361, u362, u363, u364, u365, u366, u367, u368, u369, u370, u371, u372, u373, u374, u375, u376], []⟩ Y := by
  obtain ⟨hw0, hw1⟩ := hw
  have hm16 : what.tmod 16 = 10 := by rw [Int.tmod_eq_emod_of_nonneg hw0]; exact h16
  obtain ⟨q1, q2, q3, q4, q5, q6, q7, q8⟩ := h.nums
  have qs := h.size
  have qd := h.ok.1
  have hB : Y.heap[BB]? = some (.cells #[.int .u16 D.total, .int .u8 D.ifs, .int .u8 D.number, .int .u8 D.text, .bool D.self, .bool D.wake, .int .u8 D.power, .slice (some ⟨gI, 0, none⟩) n1 cI] 32 (0, 0)) := h.mid.box
  obtain ⟨cur, hA⟩ := h.heapA
  have lB := heap_lt hB
  have lg := heap_lt hA
  have hk := h.mid.kept
  have hkS := hk.size
  obtain ⟨i8, hi8, h80, h81, h82⟩ := info_parts info5
  obtain ⟨iE, hiE, hE0, hE1, hE2⟩ := info_parts infoEp
  obtain ⟨iI, hiI, hI0, hI1, hI2⟩ := info_parts infoIf
  obtain ⟨iA, hiA, hA0, hA1, hA2⟩ := info_parts infoAlt
  have hX := h.rows.2
  obtain ⟨XX, cX, hXX, hx1, hx2⟩ := hX.isSlice
  have c8 : Y.cell? ⟨g, j * 9 + 8, none⟩ = some p.E := h.cells 8 _ rfl
  obtain ⟨nX, hnX⟩ : ∃ nX, p.a.eps.length = nX := ⟨_, rfl⟩
  have hnX2 : nX ≤ 3129 := by have h5 := h.psize; unfold altSize at h5; omega
  rw [hXX, hnX] at hX c8
  rw [hnX] at hXX
  have f8 := frozen_heap hA (o := j * 9 + 8)
  have HX := hide hX
  have HXX := hide hXX
  have HnX := hide hnX
  have HgX := hide h.neE
  have hSY : S ≤ Y.heap.size := by have := h.mid.low; omega
  clear hX hXX hnX
  have H := hide h
  have HT := hide hT
  have HB := hide hB
  have HA := hide hA
  have Hq := hide (⟨q1, q2, q3, q4, q5, q6, q7, q8, qs, qd⟩ : D.total = (sizeS ⟨D, I⟩ : Int) ∧ D.ifs = (n1 : Int) ∧ p.a.d.num = (i : Int) ∧ p.a.d.alt = (j : Int) ∧ p.a.d.eps = (p.a.eps.length : Int) ∧ i < 6 ∧ j < 16 ∧ p.a.eps.length ≤ 30 ∧ sizeS ⟨D, I⟩ ≤ 3129 ∧ D.ok)
  clear h hT hB hA h16 q1 q2 q3 q4 q5 q6 q7 q8 qs qd hk hkS
  conv => arg 2; whnf
  conv at hK => enter [a, w', 1, 2]; whnf
  conv at hK2 => enter [a, w', 1, 2]; whnf
  go_upto_region 42 with (at_builtin; refine wpList_append_el (T := epT) rfl (.tmp 189) (.tmp 191) 54 rfl S 59 iE _ 8 Tryd.underlying54 hiE hE0 hE1 hE2 rfl (by exact (by decide : 0 < 5)) _ nX p.a.eps (by rfl) (HX.out.alloc _) Y.heap.size _ _ EPB (by rfl) (heap_at _ rfl) (by exact ⟨rfl, epb_ok⟩) (by simp [Value.oneCell']) (by unfold maxLen; omega) (by omega) (by simp; omega) ?_; intro g9 cap9 w9 hown9 hg9 hb9 hat9 hlt9; have hg9' := hg9; rw [← HXX.out] at hg9'; have hA9 := heap_grown hg9' ((heap_past HA.out)) (fun e => HgX.out e.symm); have c89 : w9.cell? ⟨g, j * 9 + 8, none⟩ = some (.slice XX nX cX) := (cell_of_row _ _ _ _ _ _ hA9).trans ((cell_of_row _ _ _ _ _ _ HA.out).symm.trans c8); have f89 := frozen_heap hA9 (o := j * 9 + 8); have lg9 := heap_lt hA9)
  have hm1 := (H.out.mid.keep (show Kept Y (Y.alloc (.cells #[.int .u8 16, .bool false, .int .u8 2, .int .u16 8, .int .u8 0] 59)) from (Below.refl _ Y).alloc (Nat.le_refl _) _)).eps H.out.y H.out.p H.out.own H.out.pok.1 (E' := (.slice (some ⟨g9, 0, none⟩) (nX + 1) cap9)) (es' := p.a.eps ++ [EPB]) hg9' (by rw [List.length_append, HnX.out]; exact hown9) (hat9.elim (fun h => .inl (by rw [HXX.out]; exact h.symm)) (fun h => .inr ⟨g9, rfl, (by first | omega | exact Nat.le_of_eq h.symm)⟩))
  have HM := hide hm1
  clear hm1 hown9 hg9 hg9' hb9 hat9 hA9 c89 f89 lg9
  refine wp_at (fun Z => MidC w Z S BB (.slice (some ⟨gI, 0, none⟩) n1 cI) D (L.set i ⟨y.alts.set j ⟨{ p.a with eps := p.a.eps ++ [EPB] }, p.X, (.slice (some ⟨g9, 0, none⟩) (nX + 1) cap9)⟩, y.v⟩)) (by first | exact HM.out | exact HM.out.keep (Below.refl _ _).drew) (fun Z1 hZ1 => ?_)
  
  have c2 : Z1.cell? ⟨g, j * 9 + 2, none⟩ = some (.int .u8 p.a.d.eps) := hZ1.cells (set_y H.out.y) (set_p H.out.p) H.out.v (by rw [List.length_set]; exact H.out.len) 2 _ rfl
  obtain ⟨cu1, hA1⟩ := hZ1.heapA (set_y H.out.y) H.out.own
  have f2 := frozen_heap hA1 (o := j * 9 + 2)
  have lg1 := heap_lt hA1
  have hw8 : IntKind.u8.wrap (p.a.d.eps + 1) = p.a.d.eps + 1 := by obtain ⟨q1, q2, q3, q4, q5, q6, q7, q8, qs, qd⟩ := Hq.out; exact wrap8 (by omega) (by omega)
  have hd2 : ({ p.a.d with eps := p.a.d.eps + 1 } : IfD).ok := by obtain ⟨q1, q2, q3, q4, q5, q6, q7, q8, qs, qd⟩ := Hq.out; obtain ⟨o0, o1, o2, o3, o4, o5, o6⟩ := H.out.pok.1; exact ⟨o0, o1, (by unfold u8k; simp only; omega), o3, o4, o5, o6⟩
  have Hd2 := hide hd2
  have HZ1 := hide hZ1
  have HA1 := hide hA1
  
  clear hZ1 hA1 hd2
  go_upto_region 43 with (fail)
  have hm2 : MidC w (Z1.setCell ⟨g, j * 9 + 2, none⟩ (.int .u8 (p.a.d.eps + 1))) S BB (.slice (some ⟨gI, 0, none⟩) n1 cI) D (L.set i ⟨y.alts.set j ⟨{ p.a with d := { p.a.d with eps := p.a.d.eps + 1 }, eps := p.a.eps ++ [EPB] }, p.X, (.slice (some ⟨g9, 0, none⟩) (nX + 1) cap9)⟩, y.v⟩) := by
    have h5 := HZ1.out.field (set_y H.out.y) (set_p H.out.p) H.out.own (d' := { p.a.d with eps := p.a.d.eps + 1 }) (o := 2) (u := .int .u8 (p.a.d.eps + 1)) (by decide) rfl Hd2.out
    rw [← set_set_y (L := L) (i := i) (y := y) (j := j) (p1 := ⟨{ p.a with eps := p.a.eps ++ [EPB] }, p.X, (.slice (some ⟨g9, 0, none⟩) (nX + 1) cap9)⟩) (p2 := ⟨{ p.a with d := { p.a.d with eps := p.a.d.eps + 1 }, eps := p.a.eps ++ [EPB] }, p.X, (.slice (some ⟨g9, 0, none⟩) (nX + 1) cap9)⟩)]
    exact h5
  have HM2 := hide hm2
  clear hm2 c2 f2 lg1 hw8
  refine wp_at (fun Z => MidC w Z S BB (.slice (some ⟨gI, 0, none⟩) n1 cI) D (L.set i ⟨y.alts.set j ⟨{ p.a with d := { p.a.d with eps := p.a.d.eps + 1 }, eps := p.a.eps ++ [EPB] }, p.X, (.slice (some ⟨g9, 0, none⟩) (nX + 1) cap9)⟩, y.v⟩)) (by first | exact HM2.out | exact HM2.out.keep (Below.refl _ _).drew) (fun Z hZ => ?_)
  have b0 : Z.cell? ⟨BB, 0, none⟩ = some (.int .u16 D.total) := cell_heap hZ.box (o := 0) rfl
  have f0 := frozen_heap hZ.box (o := 0)
  have lBZ := heap_lt hZ.box
  have hwt : IntKind.u16.wrap (D.total + 7) = D.total + 7 := by obtain ⟨q1, q2, q3, q4, q5, q6, q7, q8, qs, qd⟩ := Hq.out; exact wrap16 (by omega) (by omega)
  have HZ := hide hZ
  clear hZ
  go_upto_region 67 with (fail)
  obtain ⟨q1, q2, q3, q4, q5, q6, q7, q8, qs, qd⟩ := Hq.out
  have hE : EndC w _ BB n1 cI (some ⟨gI, 0, none⟩) { D with total := D.total + 7 } (I.set i (l.set j { p.a with d := { p.a.d with eps := p.a.d.eps + 1 }, eps := p.a.eps ++ [EPB] })) := H.out.endAlt (D' := { D with total := D.total + 7 }) (p' := ⟨{ p.a with d := { p.a.d with eps := p.a.d.eps + 1 }, eps := p.a.eps ++ [EPB] }, p.X, (.slice (some ⟨g9, 0, none⟩) (nX + 1) cap9)⟩) (HZ.out.setBox (D' := { D with total := D.total + 7 }) (o := 0) (u := .int .u16 (D.total + 7)) (by decide) rfl) (by obtain ⟨o1, o2, o3, o4, o5⟩ := qd; exact ⟨(by unfold u16k; simp only; omega), o2, o3, o4, o5⟩)
  refine chk_tail hE.kept hE.box hE.cfg hE.len (by have h1 := size_at (D := D) (D' := { D with total := D.total + 7 }) (a' := { p.a with d := { p.a.d with eps := p.a.d.eps + 1 }, eps := p.a.eps ++ [EPB] }) H.out.hl H.out.ha; have h2 : altSize { p.a with d := { p.a.d with eps := p.a.d.eps + 1 }, eps := p.a.eps ++ [EPB] } = altSize p.a + 7 := (by unfold altSize; simp; omega); omega) (bad_ep H.out.chk H.out.hl H.out.ha (by omega) (by decide)) HT.out _ ?_
  assumption
set_option maxRecDepth 1000000 in
set_option maxHeartbeats 16000000 in
theorem chk_11 {u0 u1 u3 u4 u5 u6 u12 u13 u14 u15 u16 u17 u18 u19 u20 u21 u22 u23 u24 u25 u26 u27 u28 u29 u30 u31 u32 u33 u34 u35 u36 u37 u38 u39 u40 u41 u42 u43 u44 u45 u46 u47 u48 u49 u50 u51 u52 u53 u54 u55 u56 u57 u58 u59 u60 u61 u62 u63 u64 u65 u66 u67 u68 u69 u70 u71 u72 u73 u74 u75 u76 u77 u78 u79 u80 u81 u82 u83 u84 u85 u86 u87 u88 u89 u90 u91 u92 u93 u94 u95 u96 u97 u98 u99 u100 u101 u102 u103 u104 u105 u106 u107 u108 u109 u110 u111 u112 u113 u114 u115 u116 u117 u118 u119 u120 u121 u122 u123 u124 u125 u126 u127 u128 u129 u130 u131 u132 u133 u134 u135 u136 u137 u138 u139 u140 u141 u142 u143 u144 u145 u146 u147 u148 u149 u150 u151 u152 u153 u154 u155 u156 u157 u158 u159 u160 u161 u162 u163 u164 u165 u166 u167 u168 u169 u170 u171 u172 u173 u174 u175 u176 u177 u178 u179 u180 u181 u182 u183 u184 u185 u186 u187 u188 u189 u190 u191 u192 u193 u194 u195 u196 u197 u198 u199 u200 u201 u202 u203 u204 u205 u206 u207 u208 u209 u210 u211 u212 u213 u214 u215 u216 u217 u218 u219 u220 u221 u222 u223 u224 u225 u226 u227 u228 u229 u230 u231 u232 u233 u234 u235 u236 u237 u238 u239 u240 u241 u242 u243 u244 u245 u246 u247 u248 u249 u250 u251 u252 u253 u254 u255 u256 u257 u258 u259 u260 u261 u262 u263 u264 u265 u266 u267 u268 u269 u270 u271 u272 u273 u274 u275 u276 u277 u278 u279 u280 u281 u282 u283 u284 u285 u286 u287 u288 u289 u290 u291 u292 u293 u294 u295 u296 u297 u298 u299 u300 u301 u302 u303 u304 u305 u306 u307 u308 u309 u310 u311 u312 u313 u314 u315 u316 u317 u318 u319 u320 u321 u322 u323 u324 u325 u326 u327 u328 u329 u330 u331 u332 u333 u334 u335 u336 u337 u338 u339 u340 u341 u342 u343 u344 u345 u346 u347 u348 u349 u350 u351 u352 u353 u354 u355 u356 u357 u358 u359 u360 u361 u362 u363 u364 u365 u366 u367 u368 u369 u370 u371 u372 u373 u374 u375 u376 : Value} {w Y : World} {S BB gI g n1 cI m cA i j : Nat} {D : CfgD} {I : List (List Alt)} {l : List Alt} {L : List LF} {y : LF} {p : LA} {what : Int} (h : CK w Y S BB gI g n1 cI m cA i j D I l L y p) (hw : u8k what) (h16 : what % 16 = 11) (hT : Tabs w)
    (K K2 : Act → World → Prop) (hK : ∀ a w', Code.wp Tryd.prog (restC code8) (Exit.then K2 (bodyPost Tryd.prog Tryd.f6 fun e w' => e = .returned (.bool true) ∧ Kept w w')) a w' → K a w') (hK2 : ∀ a w', Code.wp Tryd.prog code67 (bodyPost Tryd.prog Tryd.f6 fun e w' => e = .returned (.bool true) ∧ Kept w w') a w' → K2 a w') :
    Code.wp Tryd.prog (headC code8) (Exit.then K (Exit.then K2 (bodyPost Tryd.prog Tryd.f6 fun e w' => e = .returned (.bool true) ∧ Kept w w'))) ⟨#[u0, u1, .int .u8 what, u3, u4, u5, u6, .pointer (some ⟨BB, 0, none⟩), .int .i64 (i : Int), .int .i64 (j : Int), .pointer (some ⟨g, j * 9, none⟩), .int .i64 1, u12, u13, u14, u15, u16, u17, u18, u19, u20, u21, u22, u23, u24, u25, u26, u27, u28, u29, u30, u31, u32, u33, u34, u35, u36, u37, u38, u39, u40, u41, u42, u43, u44, u45, u46, u47, u48, u49, u50, u51, u52, u53, u54, u55, u56, u57, u58, u59, u60, u61, u62, u63, u64, u65, u66, u67, u68, u69, u70, u71, u72, u73, u74, u75, u76, u77, u78, u79, u80, u81, u82, u83, u84, u85, u86, u87, u88, u89, u90, u91, u92, u93, u94, u95, u96, u97, u98, u99, u100, u101, u102, u103, u104, u105, u106, u107, u108, u109, u110, u111, u112, u113, u114, u115, u116, u117, u118, u119, u120, u121, u122, u123, u124, u125, u126, u127, u128, u129, u130, u131, u132, u133, u134, u135, u136, u137, u138, u139, u140, u141, u142, u143, u144, u145, u146, u147, u148, u149, u150, u151, u152, u153, u154, u155, u156, u157, u158, u159, u160, u161, u162, u163, u164, u165, u166, u167, u168, u169, u170, u171, u172, u173, u174, u175, u176, u177, u178, u179, u180, u181, u182, u183, u184, u185, u186, u187, u188, u189, u190, u191, u192, u193, u194, u195, u196, u197, u198, u199, u200, u201, u202, u203, u204, u205, u206, u207, u208, u209, u210, u211, u212, u213, u214, u215, u216, u217, u218, u219, u220, u221, u222, u223, u224, u225, u226, u227, u228, u229, u230, u231, u232, u233, u234, u235, u236, u237, u238, u239, u240, u241, u242, u243, u244, u245, u246, u247, u248, u249, u250, u251, u252, u253, u254, u255, u256, u257, u258, u259, u260, u261, u262, u263, u264, u265, u266, u267, u268, u269, u270, u271, u272, u273, u274, u275, u276, u277, u278, u279, u280, u281, u282, u283, u284, u285, u286, u287, u288, u289, u290, u291, u292, u293, u294, u295, u296, u297, u298, u299, u300, u301, u302, u303, u304, u305, u306, u307, u308, u309, u310, u311, u312, u313, u314, u315, u316, u317, u318, u319, u320, u321, u322, u323, u324, u325, u326, u327, u328, u329, u330, u331, u332, u333, u334, u335, u336, u337, u338, u339, u340, u341, u342, u343, u344, u345, u346, u347, u348, u349, u350, u351, u352, u353, u354, u355, u356, u357, u358, u359, u360, u361, u362, u363, u364, u365, u366, u367, u368, u369, u370, u371, u372, u373, u374, u375, u376], []⟩ Y := by
  obtain ⟨hw0, hw1⟩ := hw
  have hm16 : what.tmod 16 = 11 := by rw [Int.tmod_eq_emod_of_nonneg hw0]; exact h16
  obtain ⟨q1, q2, q3, q4, q5, q6, q7, q8⟩ := h.nums
  have qs := h.size
  have qd := h.ok.1
  have hB : Y.heap[BB]? = some (.cells #[.int .u16 D.total, .int .u8 D.ifs, .int .u8 D.number, .int .u8 D.text, .bool D.self, .bool D.wake, .int .u8 D.power, .slice (some ⟨gI, 0, none⟩) n1 cI] 32 (0, 0)) := h.mid.box
  obtain ⟨cur, hA⟩ := h.heapA
  have lB := heap_lt hB
  have lg := heap_lt hA
  have hk := h.mid.kept
  have hkS := hk.size
  obtain ⟨i8, hi8, h80, h81, h82⟩ := info_parts info5
  obtain ⟨iE, hiE, hE0, hE1, hE2⟩ := info_parts infoEp
  obtain ⟨iI, hiI, hI0, hI1, hI2⟩ := info_parts infoIf
  obtain ⟨iA, hiA, hA0, hA1, hA2⟩ := info_parts infoAlt
  have H := hide h
  have HT := hide hT
  have HB := hide hB
  have HA := hide hA
  have Hq := hide (⟨q1, q2, q3, q4, q5, q6, q7, q8, qs, qd⟩ : D.total = (sizeS ⟨D, I⟩ : Int) ∧ D.ifs = (n1 : Int) ∧ p.a.d.num = (i : Int) ∧ p.a.d.alt = (j : Int) ∧ p.a.d.eps = (p.a.eps.length : Int) ∧ i < 6 ∧ j < 16 ∧ p.a.eps.length ≤ 30 ∧ sizeS ⟨D, I⟩ ≤ 3129 ∧ D.ok)
  clear h hT hB hA h16 q1 q2 q3 q4 q5 q6 q7 q8 qs qd hk hkS
  conv => arg 2; whnf
  conv at hK => enter [a, w', 1, 2]; whnf
  conv at hK2 => enter [a, w', 1, 2]; whnf
  go_upto_region 46 with (fail)
  refine wp_at (fun Z => CK w Z S BB gI g n1 cI m cA i j D I l L y p ∧ Z.heap[Y.heap.size]? = some (.cells #[.int .u8 15, .bool false, .int .u8 2, .int .u16 8, .int .u8 0] 59 (0, 0))) ⟨H.out.keep ((Below.refl _ Y).alloc (Nat.le_refl _) _), heap_at _ rfl⟩ (fun Z0 hZ0 => ?_)
  obtain ⟨hZ0, hE0b⟩ := hZ0
  have hgE : g < Y.heap.size := heap_lt HA.out
  obtain ⟨E0, hE0d⟩ : ∃ E0, Y.heap.size = E0 := ⟨_, rfl⟩
  rw [hE0d] at hE0b hgE
  simp only [hE0d]
  obtain ⟨cur0, hA0⟩ := hZ0.heapA
  have lg0 := heap_lt hA0
  have lE0 := heap_lt hE0b
  have hkS := hZ0.mid.kept.size
  have hB0 : Z0.heap[BB]? = some (.cells #[.int .u16 D.total, .int .u8 D.ifs, .int .u8 D.number, .int .u8 D.text, .bool D.self, .bool D.wake, .int .u8 D.power, .slice (some ⟨gI, 0, none⟩) n1 cI] 32 (0, 0)) := hZ0.mid.box
  have lB0 := heap_lt hB0
  have hX := hZ0.rows.2
  obtain ⟨XX, cX, hXX, hx1, hx2⟩ := hX.isSlice
  have c8 : Z0.cell? ⟨g, j * 9 + 8, none⟩ = some p.E := hZ0.cells 8 _ rfl
  obtain ⟨nX, hnX⟩ : ∃ nX, p.a.eps.length = nX := ⟨_, rfl⟩
  have hnX2 : nX ≤ 3129 := by have h5 := hZ0.psize; unfold altSize at h5; omega
  rw [hXX, hnX] at hX c8
  rw [hnX] at hXX
  have f8 := frozen_heap hA0 (o := j * 9 + 8)
  have HX := hide hX
  have HXX := hide hXX
  have HnX := hide hnX
  have HgX := hide hZ0.neE
  have hSY : S ≤ Z0.heap.size := by have := hZ0.mid.low; omega
  clear hX hXX hnX
  have hXE : p.E.ownBlock ≠ some E0 := fun e => by have h5 := (H.out.rows.2.lt e).2; rw [hE0d] at h5; omega
  have HXE := hide hXE
  have e0 := cell_heap hE0b (o := 0) rfl; have e1 := cell_heap hE0b (o := 1) rfl; have e2 := cell_heap hE0b (o := 2) rfl; have e3 := cell_heap hE0b (o := 3) rfl; have e4 := cell_heap hE0b (o := 4) rfl
  have HE0 := hide hE0b
  have HA0 := hide hA0
  have HB0 := hide hB0
  have H0 := hide hZ0
  clear hZ0 hA0 hE0b hXE hB0 hE0d
  go_region_law (refine step_append_sl (T := epT) rfl (.tmp 217) (.tmp 220) 54 rfl S 59 iE _ 8 Tryd.underlying54 hiE hE0 hE1 hE2 rfl (by exact (by decide : 0 < 5)) _ nX p.a.eps (by rfl) (HX.out.drew.alloc _) (some ⟨Z0.heap.size, 0, none⟩) 2 2 [EPC, EPC] (by rfl) (by exact sl_ep2 (e := EPC) (heap_at _ (by first | rfl | simp)) ⟨by simp, fun e => by have := (HX.out.lt e).2; omega⟩ epc_ok) (ep_cells_one _ _) (by unfold maxLen; omega) (by omega) (by simp; omega) ?_; intro v9 w9 hown9 hg9 hb9 hat9; obtain ⟨A9, c9, rfl, h91, h92⟩ := hown9.isSlice; have hg9' := hg9; rw [← HXX.out] at hg9'; have hA9 := heap_grown hg9' ((heap_past HA0.out)) (fun e => HgX.out e.symm); have c89 : w9.cell? ⟨g, j * 9 + 8, none⟩ = some (.slice XX nX cX) := (cell_of_row _ _ _ _ _ _ hA9).trans ((cell_of_row _ _ _ _ _ _ HA0.out).symm.trans c8); have f89 := frozen_heap hA9 (o := j * 9 + 8); have lg9 := heap_lt hA9)
  all_goals
    have hm1 := (H0.out.mid.keep (show Kept Z0 (Z0.drew.alloc (.cells #[.int .u8 15, .bool false, .int .u8 2, .int .u16 8, .int .u8 0, .int .u8 15, .bool false, .int .u8 2, .int .u16 8, .int .u8 0] 59)) from (Below.refl _ Z0).drew.alloc (by exact Nat.le_refl _) _)).eps H.out.y H.out.p H.out.own H.out.pok.1 (E' := (.slice A9 (nX + 2) c9)) (es' := p.a.eps ++ [EPC, EPC]) hg9' (by rw [List.length_append, HnX.out]; exact hown9) (hat9.elim (fun h => .inl (by rw [HXX.out]; exact h)) (fun h => .inr ⟨_, h, Nat.le_refl _⟩))
    have HM := hide hm1
    clear hm1 hown9 hg9 hg9' hb9 hat9 hA9 c89 f89 lg9
    go_upto_region 47 with (fail)
    refine wp_at (fun Z => MidC w Z S BB (.slice (some ⟨gI, 0, none⟩) n1 cI) D (L.set i ⟨y.alts.set j ⟨{ p.a with eps := p.a.eps ++ [EPC, EPC] }, p.X, (.slice A9 (nX + 2) c9)⟩, y.v⟩)) (by first | exact HM.out | exact HM.out.keep (Below.refl _ _).drew) (fun Z1 hZ1 => ?_)
    
    have c2 : Z1.cell? ⟨g, j * 9 + 2, none⟩ = some (.int .u8 p.a.d.eps) := hZ1.cells (set_y H.out.y) (set_p H.out.p) H.out.v (by rw [List.length_set]; exact H.out.len) 2 _ rfl
    obtain ⟨cu1, hA1⟩ := hZ1.heapA (set_y H.out.y) H.out.own
    have f2 := frozen_heap hA1 (o := j * 9 + 2)
    have lg1 := heap_lt hA1
    have hw8 : IntKind.u8.wrap (p.a.d.eps + 2) = p.a.d.eps + 2 := by obtain ⟨q1, q2, q3, q4, q5, q6, q7, q8, qs, qd⟩ := Hq.out; exact wrap8 (by omega) (by omega)
    have hd2 : ({ p.a.d with eps := p.a.d.eps + 2 } : IfD).ok := by obtain ⟨q1, q2, q3, q4, q5, q6, q7, q8, qs, qd⟩ := Hq.out; obtain ⟨o0, o1, o2, o3, o4, o5, o6⟩ := H.out.pok.1; exact ⟨o0, o1, (by unfold u8k; simp only; omega), o3, o4, o5, o6⟩
    have Hd2 := hide hd2
    have HZ1 := hide hZ1
    have HA1 := hide hA1
    
    clear hZ1 hA1 hd2
    go_upto_region 48 with (fail)
    have hm2 : MidC w (Z1.setCell ⟨g, j * 9 + 2, none⟩ (.int .u8 (p.a.d.eps + 2))) S BB (.slice (some ⟨gI, 0, none⟩) n1 cI) D (L.set i ⟨y.alts.set j ⟨{ p.a with d := { p.a.d with eps := p.a.d.eps + 2 }, eps := p.a.eps ++ [EPC, EPC] }, p.X, (.slice A9 (nX + 2) c9)⟩, y.v⟩) := by
      have h5 := HZ1.out.field (set_y H.out.y) (set_p H.out.p) H.out.own (d' := { p.a.d with eps := p.a.d.eps + 2 }) (o := 2) (u := .int .u8 (p.a.d.eps + 2)) (by decide) rfl Hd2.out
      rw [← set_set_y (L := L) (i := i) (y := y) (j := j) (p1 := ⟨{ p.a with eps := p.a.eps ++ [EPC, EPC] }, p.X, (.slice A9 (nX + 2) c9)⟩) (p2 := ⟨{ p.a with d := { p.a.d with eps := p.a.d.eps + 2 }, eps := p.a.eps ++ [EPC, EPC] }, p.X, (.slice A9 (nX + 2) c9)⟩)]
      exact h5
    have HM2 := hide hm2
    clear hm2 c2 f2 lg1 hw8
    refine wp_at (fun Z => MidC w Z S BB (.slice (some ⟨gI, 0, none⟩) n1 cI) D (L.set i ⟨y.alts.set j ⟨{ p.a with d := { p.a.d with eps := p.a.d.eps + 2 }, eps := p.a.eps ++ [EPC, EPC] }, p.X, (.slice A9 (nX + 2) c9)⟩, y.v⟩)) (by first | exact HM2.out | exact HM2.out.keep (Below.refl _ _).drew) (fun Z hZ => ?_)
    have b0 : Z.cell? ⟨BB, 0, none⟩ = some (.int .u16 D.total) := cell_heap hZ.box (o := 0) rfl
    have f0 := frozen_heap hZ.box (o := 0)
    have lBZ := heap_lt hZ.box
    have hwt : IntKind.u16.wrap (D.total + 14) = D.total + 14 := by obtain ⟨q1, q2, q3, q4, q5, q6, q7, q8, qs, qd⟩ := Hq.out; exact wrap16 (by omega) (by omega)
    have HZ := hide hZ
    clear hZ
    go_upto_region 67 with (fail)
    obtain ⟨q1, q2, q3, q4, q5, q6, q7, q8, qs, qd⟩ := Hq.out
    have hE : EndC w _ BB n1 cI (some ⟨gI, 0, none⟩) { D with total := D.total + 14 } (I.set i (l.set j { p.a with d := { p.a.d with eps := p.a.d.eps + 2 }, eps := p.a.eps ++ [EPC, EPC] })) := H.out.endAlt (D' := { D with total := D.total + 14 }) (p' := ⟨{ p.a with d := { p.a.d with eps := p.a.d.eps + 2 }, eps := p.a.eps ++ [EPC, EPC] }, p.X, (.slice A9 (nX + 2) c9)⟩) (HZ.out.setBox (D' := { D with total := D.total + 14 }) (o := 0) (u := .int .u16 (D.total + 14)) (by decide) rfl) (by obtain ⟨o1, o2, o3, o4, o5⟩ := qd; exact ⟨(by unfold u16k; simp only; omega), o2, o3, o4, o5⟩)
    refine chk_tail hE.kept hE.box hE.cfg hE.len (by have h1 := size_at (D := D) (D' := { D with total := D.total + 14 }) (a' := { p.a with d := { p.a.d with eps := p.a.d.eps + 2 }, eps := p.a.eps ++ [EPC, EPC] }) H.out.hl H.out.ha; have h2 : altSize { p.a with d := { p.a.d with eps := p.a.d.eps + 2 }, eps := p.a.eps ++ [EPC, EPC] } = altSize p.a + 14 := (by unfold altSize; simp; omega); omega) (bad_twice H.out.chk H.out.hl H.out.ha (by omega)) HT.out _ ?_
    assumption
end Go.Proofs.YtjgncofhobhjdaaDoor
