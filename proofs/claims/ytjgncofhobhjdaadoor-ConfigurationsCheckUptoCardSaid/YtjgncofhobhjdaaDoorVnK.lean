/- The law Check: a setting too many, its pieces. Printed by gen_ve.py. -/
import Derived.Test.YtjgncofhobhjdaaDoorChecked
import Derived.Deep.RegionHeld3
import Derived.Deep.DrawnRows
import Derived.Deep.DeepCutAuto
import Derived.Deep.LoopGhost
import Derived.Outline
import Derived.Handy
import Derived.OwnWalk
import Derived.BigQuiet
import Derived.Test.YtjgncofhobhjdaaDoorVjK
set_option linter.unusedVariables false
set_option linter.unusedSimpArgs false
set_option linter.unusedSectionVars false
namespace Go.Proofs.YtjgncofhobhjdaaDoor
open Go.RowKit
attribute [local go_sem ↓] Go.wp_at_zero Go.wp_at_succ

noncomputable def code63 : Code := (Tryd.f6.body.bind (findR 63)).getD .skip
noncomputable def code64 : Code := (Tryd.f6.body.bind (findR 64)).getD .skip
noncomputable def ops63 : Array Oper := opsOf (headC code63)
noncomputable def ops64 : Array Oper := opsOf (headC code64)
theorem below_since {NB : Nat} {V w' : World} (h : Below NB V w') : (∀ b o, b < NB → w'.cell? ⟨b, o, none⟩ = V.cell? ⟨b, o, none⟩) ∧ Below NB V w' := ⟨fun b o hb => h.cell (p := ⟨b, o, none⟩) hb, h⟩
set_option maxRecDepth 1000000 in
set_option maxHeartbeats 16000000 in
theorem r63 {u0 u1 u2 u3 u4 u5 u6 u9 u10 u11 u12 u13 u14 u16 u17 u18 u19 u20 u21 u22 u23 u24 u25 u26 u27 u28 u29 u30 u31 u32 u33 u34 u35 u36 u37 u38 u39 u40 u41 u42 u43 u44 u45 u46 u47 u48 u49 u50 u51 u52 u53 u54 u55 u56 u57 u58 u59 u60 u61 u62 u63 u64 u65 u66 u67 u68 u69 u70 u71 u72 u73 u74 u75 u76 u77 u78 u79 u80 u81 u82 u83 u84 u85 u86 u87 u88 u89 u90 u91 u92 u93 u94 u95 u96 u97 u98 u99 u100 u101 u102 u103 u104 u105 u106 u107 u108 u109 u110 u111 u112 u113 u114 u115 u116 u117 u118 u119 u120 u121 u122 u123 u124 u125 u126 u127 u128 u129 u130 u131 u132 u133 u134 u135 u136 u137 u138 u139 u140 u141 u142 u143 u144 u145 u146 u147 u148 u149 u150 u151 u152 u153 u154 u155 u156 u157 u158 u159 u160 u161 u162 u163 u164 u165 u166 u167 u168 u169 u170 u171 u172 u173 u174 u175 u176 u177 u178 u179 u180 u181 u182 u183 u184 u185 u186 u187 u188 u189 u190 u191 u192 u193 u194 u195 u196 u197 u198 u199 u200 u201 u202 u203 u204 u205 u206 u207 u208 u209 u210 u211 u212 u213 u214 u215 u216 u217 u218 u219 u220 u221 u222 u223 u224 u225 u226 u227 u228 u229 u230 u231 u232 u233 u234 u235 u236 u237 u238 u239 u240 u241 u242 u243 u244 u245 u246 u247 u248 u249 u250 u251 u252 u253 u254 u255 u256 u257 u258 u259 u260 u261 u262 u263 u264 u265 u266 u267 u268 u269 u270 u271 u272 u273 u274 u275 u276 u277 u278 u279 u280 u281 u282 u283 u284 u285 u286 u287 u288 u289 u290 u291 u292 u293 u294 u295 u296 u297 u298 u299 u300 u301 u302 u303 u304 u305 u306 u307 u308 u309 u310 u311 u312 u313 u314 u315 u316 u317 u318 u319 u320 u321 u322 u323 u324 u325 u326 u327 u328 u329 u330 u331 u332 u333 u334 u335 u336 u337 u338 u339 u340 u341 u342 u343 u344 u345 u346 u347 u348 u349 u350 u351 u352 u353 u354 u355 u356 u357 u358 u359 u360 u361 u362 u363 u364 u365 u366 u367 u368 u369 u370 u371 u372 u373 u374 u375 u376 : Value} {V : World} {BB NB gI n1 cI i k cy : Nat} {Ay : Option Addr} (hVb : V.heap[NB]? = some (.cells #[.int .u8 0, .int .u8 0, .int .u8 0, .int .u8 0, .int .u8 0, .int .u8 0, .int .u8 0, .slice none 0 0, .slice none 0 0] 56 (0, 0))) (b7V : V.cell? ⟨BB, 7, none⟩ = some (.slice (some ⟨gI, 0, none⟩) n1 cI)) (cIV : V.cell? ⟨gI, i, none⟩ = some (.slice Ay k cy))
    (lBV : BB < NB) (lIV : gI < NB) (hin : (i : Int) < (n1 : Int)) (hi0 : (0 : Int) ≤ (i : Int)) (hwi : IntKind.u8.wrap (i : Int) = (i : Int)) (hwk : IntKind.u8.wrap (k : Int) = (k : Int))
    (Q : Exit → Act → World → Prop) (hQ : ∀ (s314 s315 s316 s317 s318 s319 s320 s321 s322 s323 s324 s325 s326 s327 : Value) (w' : World), w'.heap[NB]? = some (.cells #[.int .u8 (i : Int), .int .u8 (k : Int), .int .u8 0, .int .u8 0, .int .u8 0, .int .u8 0, .int .u8 0, .slice none 0 0, .slice none 0 0] 56 (0, 0)) → Below NB V w' → Q .normal ⟨#[u0, u1, u2, u3, u4, u5, u6, .pointer (some ⟨BB, 0, none⟩), .int .i64 (i : Int), u9, u10, u11, u12, u13, u14, .pointer (some ⟨NB, 0, none⟩), u16, u17, u18, u19, u20, u21, u22, u23, u24, u25, u26, u27, u28, u29, u30, u31, u32, u33, u34, u35, u36, u37, u38, u39, u40, u41, u42, u43, u44, u45, u46, u47, u48, u49, u50, u51, u52, u53, u54, u55, u56, u57, u58, u59, u60, u61, u62, u63, u64, u65, u66, u67, u68, u69, u70, u71, u72, u73, u74, u75, u76, u77, u78, u79, u80, u81, u82, u83, u84, u85, u86, u87, u88, u89, u90, u91, u92, u93, u94, u95, u96, u97, u98, u99, u100, u101, u102, u103, u104, u105, u106, u107, u108, u109, u110, u111, u112, u113, u114, u115, u116, u117, u118, u119, u120, u121, u122, u123, u124, u125, u126, u127, u128, u129, u130, u131, u132, u133, u134, u135, u136, u137, u138, u139, u140, u141, u142, u143, u144, u145, u146, u147, u148, u149, u150, u151, u152, u153, u154, u155, u156, u157, u158, u159, u160, u161, u162, u163, u164, u165, u166, u167, u168, u169, u170, u171, u172, u173, u174, u175, u176, u177, u178, u179, u180, u181, u182, u183, u184, u185, u186, u187, u188, u189, u190, u191, u192, u193, u194, u195, u196, u197, u198, u199, u200, u201, u202, u203, u204, u205, u206, u207, u208, u209, u210, u211, u212, u213, u214, u215, u216, u217, u218, u219, u220, u221, u222, u223, u224, u225, u226, u227, u228, u229, u230, u231, u232, u233, u234, u235, u236, u237, u238, u239, u240, u241, u242, u243, u244, u245, u246, u247, u248, u249, u250, u251, u252, u253, u254, u255, u256, u257, u258, u259, u260, u261, u262, u263, u264, u265, u266, u267, u268, u269, u270, u271, u272, u273, u274, u275, u276, u277, u278, u279, u280, u281, u282, u283, u284, u285, u286, u287, u288, u289, u290, u291, u292, u293, u294, u295, u296, u297, u298, u299, u300, u301, u302, u303, u304, u305, u306, u307, u308, u309, u310, u311, u312, u313, s314, s315, s316, s317, s318, s319, s320, s321, s322, s323, s324, s325, s326, s327, u328, u329, u330, u331, u332, u333, u334, u335, u336, u337, u338, u339, u340, u341, u342, u343, u344, u345, u346, u347, u348, u349, u350, u351, u352, u353, u354, u355, u356, u357, u358, u359, u360, u361, u362, u363, u364, u365, u366, u367, u368, u369, u370, u371, u372, u373, u374, u375, u376], []⟩ w') :
    Code.wp Tryd.prog (headC code63) Q ⟨#[u0, u1, u2, u3, u4, u5, u6, .pointer (some ⟨BB, 0, none⟩), .int .i64 (i : Int), u9, u10, u11, u12, u13, u14, .pointer (some ⟨NB, 0, none⟩), u16, u17, u18, u19, u20, u21, u22, u23, u24, u25, u26, u27, u28, u29, u30, u31, u32, u33, u34, u35, u36, u37, u38, u39, u40, u41, u42, u43, u44, u45, u46, u47, u48, u49, u50, u51, u52, u53, u54, u55, u56, u57, u58, u59, u60, u61, u62, u63, u64, u65, u66, u67, u68, u69, u70, u71, u72, u73, u74, u75, u76, u77, u78, u79, u80, u81, u82, u83, u84, u85, u86, u87, u88, u89, u90, u91, u92, u93, u94, u95, u96, u97, u98, u99, u100, u101, u102, u103, u104, u105, u106, u107, u108, u109, u110, u111, u112, u113, u114, u115, u116, u117, u118, u119, u120, u121, u122, u123, u124, u125, u126, u127, u128, u129, u130, u131, u132, u133, u134, u135, u136, u137, u138, u139, u140, u141, u142, u143, u144, u145, u146, u147, u148, u149, u150, u151, u152, u153, u154, u155, u156, u157, u158, u159, u160, u161, u162, u163, u164, u165, u166, u167, u168, u169, u170, u171, u172, u173, u174, u175, u176, u177, u178, u179, u180, u181, u182, u183, u184, u185, u186, u187, u188, u189, u190, u191, u192, u193, u194, u195, u196, u197, u198, u199, u200, u201, u202, u203, u204, u205, u206, u207, u208, u209, u210, u211, u212, u213, u214, u215, u216, u217, u218, u219, u220, u221, u222, u223, u224, u225, u226, u227, u228, u229, u230, u231, u232, u233, u234, u235, u236, u237, u238, u239, u240, u241, u242, u243, u244, u245, u246, u247, u248, u249, u250, u251, u252, u253, u254, u255, u256, u257, u258, u259, u260, u261, u262, u263, u264, u265, u266, u267, u268, u269, u270, u271, u272, u273, u274, u275, u276, u277, u278, u279, u280, u281, u282, u283, u284, u285, u286, u287, u288, u289, u290, u291, u292, u293, u294, u295, u296, u297, u298, u299, u300, u301, u302, u303, u304, u305, u306, u307, u308, u309, u310, u311, u312, u313, u314, u315, u316, u317, u318, u319, u320, u321, u322, u323, u324, u325, u326, u327, u328, u329, u330, u331, u332, u333, u334, u335, u336, u337, u338, u339, u340, u341, u342, u343, u344, u345, u346, u347, u348, u349, u350, u351, u352, u353, u354, u355, u356, u357, u358, u359, u360, u361, u362, u363, u364, u365, u366, u367, u368, u369, u370, u371, u372, u373, u374, u375, u376], []⟩ V := by
  have v0 : V.cell? ⟨NB, 0, none⟩ = some (.int .u8 0) := cell_heap hVb (o := 0) rfl
  have v1 : V.cell? ⟨NB, 1, none⟩ = some (.int .u8 0) := cell_heap hVb (o := 1) rfl
  have fv0 := frozen_heap hVb (o := 0)
  have fv1 := frozen_heap hVb (o := 1)
  have lV := heap_lt hVb
  have hNV : NB ≤ V.heap.size := Nat.le_of_lt lV
  have HVb := hide hVb
  have HQ := hide hQ
  clear hVb hQ
  conv => arg 2; whnf
  refine wp_region_noPanic ?_
  refine wp_region_held_named (ops' := ops63) (n := 16) (S := fun w' => (∀ b o, b < NB → w'.cell? ⟨b, o, none⟩ = V.cell? ⟨b, o, none⟩) ∧ Below NB V w') (by kernel_rfl) (by kernel_rfl) (by kernel_rfl) (below_since ((Below.refl _ V).mono hNV).drew) (fun hS => ?_)
  have ho : ops63[0]? = some (opAt ops63 0) := by kernel_rfl
  conv at ho => rhs; arg 1; whnf
  refine wpAnyH_take (i := 0) (v := ?_) ho (by kernel_rfl) (by kernel_rfl) (by kernel_rfl) (fun _ _ _ h => h) (Or.inl ⟨by kernel_rfl, ?_⟩) hS ?_
  clear ho
  rotate_left
  · intro w' hS'
    have hq := hS'.1
    have hq2 := hS'.2
    clear hS'
    first | (go_simp; done) | (go_simp; with_reducible rfl)
  try clear ho
  try simp only [Act.put, List.getElem_toArray, List.getElem_cons_zero, List.getElem_cons_succ, List.setIfInBounds_toArray, List.set_cons_zero, List.set_cons_succ]
  have ho : ops63[1]? = some (opAt ops63 1) := by kernel_rfl
  conv at ho => rhs; arg 1; whnf
  refine wpAnyH_take (i := 1) (v := ?_) ho (by kernel_rfl) (by kernel_rfl) (by kernel_rfl) (fun _ _ _ h => h) (Or.inl ⟨by kernel_rfl, ?_⟩) hS ?_
  clear ho
  rotate_left
  · intro w' hS'
    have hq := hS'.1
    have hq2 := hS'.2
    clear hS'
    first | (go_simp; done) | (go_simp; with_reducible rfl)
  try clear ho
  try simp only [Act.put, List.getElem_toArray, List.getElem_cons_zero, List.getElem_cons_succ, List.setIfInBounds_toArray, List.set_cons_zero, List.set_cons_succ]
  have ho : ops63[2]? = some (opAt ops63 2) := by kernel_rfl
  conv at ho => rhs; arg 1; whnf
  refine wpAnyH_take (i := 2) (v := ?_) ho (by kernel_rfl) (by kernel_rfl) (by kernel_rfl) (fun _ _ _ h => h) (Or.inl ⟨by kernel_rfl, ?_⟩) hS ?_
  clear ho
  rotate_left
  · intro w' hS'
    have hq := hS'.1
    have hq2 := hS'.2
    clear hS'
    first | (go_simp; done) | (go_simp; with_reducible rfl)
  try clear ho
  try simp only [Act.put, List.getElem_toArray, List.getElem_cons_zero, List.getElem_cons_succ, List.setIfInBounds_toArray, List.set_cons_zero, List.set_cons_succ]
  have ho : ops63[3]? = some (opAt ops63 3) := by kernel_rfl
  conv at ho => rhs; arg 1; whnf
  refine wpAnyH_take (i := 3) (v := ?_) ho (by kernel_rfl) (by kernel_rfl) (by kernel_rfl) (fun _ _ _ h => h) (Or.inl ⟨by kernel_rfl, ?_⟩) hS ?_
  clear ho
  rotate_left
  · intro w' hS'
    have hq := hS'.1
    have hq2 := hS'.2
    clear hS'
    first | (go_simp; done) | (go_simp; with_reducible rfl)
  try clear ho
  try simp only [Act.put, List.getElem_toArray, List.getElem_cons_zero, List.getElem_cons_succ, List.setIfInBounds_toArray, List.set_cons_zero, List.set_cons_succ]
  have ho : ops63[4]? = some (opAt ops63 4) := by kernel_rfl
  conv at ho => rhs; arg 1; whnf
  refine wpAnyH_take (i := 4) (v := ?_) ho (by kernel_rfl) (by kernel_rfl) (by kernel_rfl) (fun _ _ _ h => h) (Or.inl ⟨by kernel_rfl, ?_⟩) hS ?_
  clear ho
  rotate_left
  · intro w' hS'
    have hq := hS'.1
    have hq2 := hS'.2
    clear hS'
    first | (go_simp; done) | (go_simp; with_reducible rfl)
  try clear ho
  try simp only [Act.put, List.getElem_toArray, List.getElem_cons_zero, List.getElem_cons_succ, List.setIfInBounds_toArray, List.set_cons_zero, List.set_cons_succ]
  have ho : ops63[5]? = some (opAt ops63 5) := by kernel_rfl
  conv at ho => rhs; arg 1; whnf
  refine wpAnyH_take (i := 5) (v := ?_) ho (by kernel_rfl) (by kernel_rfl) (by kernel_rfl) (fun _ _ _ h => h) (Or.inl ⟨by kernel_rfl, ?_⟩) hS ?_
  clear ho
  rotate_left
  · intro w' hS'
    have hq := hS'.1
    have hq2 := hS'.2
    clear hS'
    first | (go_simp; done) | (go_simp; with_reducible rfl)
  try clear ho
  try simp only [Act.put, List.getElem_toArray, List.getElem_cons_zero, List.getElem_cons_succ, List.setIfInBounds_toArray, List.set_cons_zero, List.set_cons_succ]
  have ho : ops63[6]? = some (opAt ops63 6) := by kernel_rfl
  conv at ho => rhs; arg 1; whnf
  refine wpAnyH_take (i := 6) (v := ?_) ho (by kernel_rfl) (by kernel_rfl) (by kernel_rfl) (fun _ _ _ h => h) (Or.inl ⟨by kernel_rfl, ?_⟩) hS ?_
  clear ho
  rotate_left
  · intro w' hS'
    have hq := hS'.1
    have hq2 := hS'.2
    clear hS'
    first | (go_simp; done) | (go_simp; with_reducible rfl)
  try clear ho
  try simp only [Act.put, List.getElem_toArray, List.getElem_cons_zero, List.getElem_cons_succ, List.setIfInBounds_toArray, List.set_cons_zero, List.set_cons_succ]
  have ho : ops63[7]? = some (opAt ops63 7) := by kernel_rfl
  conv at ho => rhs; arg 1; whnf
  refine wpAnyH_take (i := 7) (v := ?_) ho (by kernel_rfl) (by kernel_rfl) (by kernel_rfl) (fun _ _ _ h => h) (Or.inl ⟨by kernel_rfl, ?_⟩) hS ?_
  clear ho
  rotate_left
  · intro w' hS'
    have hq := hS'.1
    have hq2 := hS'.2
    clear hS'
    first | (go_simp; done) | (go_simp; with_reducible rfl)
  try clear ho
  try simp only [Act.put, List.getElem_toArray, List.getElem_cons_zero, List.getElem_cons_succ, List.setIfInBounds_toArray, List.set_cons_zero, List.set_cons_succ]
  have ho : ops63[8]? = some (opAt ops63 8) := by kernel_rfl
  conv at ho => rhs; arg 1; whnf
  refine wpAnyH_take (i := 8) (v := ?_) ho (by kernel_rfl) (by kernel_rfl) (by kernel_rfl) (fun _ _ _ h => h) (Or.inl ⟨by kernel_rfl, ?_⟩) hS ?_
  clear ho
  rotate_left
  · intro w' hS'
    have hq := hS'.1
    have hq2 := hS'.2
    clear hS'
    first | (go_simp; done) | (go_simp; with_reducible rfl)
  try clear ho
  try simp only [Act.put, List.getElem_toArray, List.getElem_cons_zero, List.getElem_cons_succ, List.setIfInBounds_toArray, List.set_cons_zero, List.set_cons_succ]
  have ho : ops63[9]? = some (opAt ops63 9) := by kernel_rfl
  conv at ho => rhs; arg 1; whnf
  refine wpAnyH_take (i := 9) (v := ?_) ho (by kernel_rfl) (by kernel_rfl) (by kernel_rfl) (fun _ _ _ h => h) (Or.inl ⟨by kernel_rfl, ?_⟩) hS ?_
  clear ho
  rotate_left
  · intro w' hS'
    have hq := hS'.1
    have hq2 := hS'.2
    clear hS'
    first | (go_simp; done) | (go_simp; with_reducible rfl)
  try clear ho
  try simp only [Act.put, List.getElem_toArray, List.getElem_cons_zero, List.getElem_cons_succ, List.setIfInBounds_toArray, List.set_cons_zero, List.set_cons_succ]
  have ho : ops63[10]? = some (opAt ops63 10) := by kernel_rfl
  conv at ho => rhs; arg 1; whnf
  refine wpAnyH_take (i := 10) (v := ?_) ho (by kernel_rfl) (by kernel_rfl) (by kernel_rfl) (fun _ _ _ h => h) (Or.inl ⟨by kernel_rfl, ?_⟩) hS ?_
  clear ho
  rotate_left
  · intro w' hS'
    have hq := hS'.1
    have hq2 := hS'.2
    clear hS'
    first | (go_simp; done) | (go_simp; with_reducible rfl)
  try clear ho
  try simp only [Act.put, List.getElem_toArray, List.getElem_cons_zero, List.getElem_cons_succ, List.setIfInBounds_toArray, List.set_cons_zero, List.set_cons_succ]
  have ho : ops63[11]? = some (opAt ops63 11) := by kernel_rfl
  conv at ho => rhs; arg 1; whnf
  refine wpAnyH_take (i := 11) (v := ?_) ho (by kernel_rfl) (by kernel_rfl) (by kernel_rfl) (fun _ _ _ h => h) (Or.inl ⟨by kernel_rfl, ?_⟩) hS ?_
  clear ho
  rotate_left
  · intro w' hS'
    have hq := hS'.1
    have hq2 := hS'.2
    clear hS'
    first | (go_simp; done) | (go_simp; with_reducible rfl)
  try clear ho
  try simp only [Act.put, List.getElem_toArray, List.getElem_cons_zero, List.getElem_cons_succ, List.setIfInBounds_toArray, List.set_cons_zero, List.set_cons_succ]
  have ho12 : ops63[12]? = some (opAt ops63 12) := by kernel_rfl
  conv at ho12 => rhs; arg 1; whnf
  refine wpAnyH_ready (rs := [12]) (by kernel_rfl) (by simp) ?_
  refine (AllReadyH.cons ho12 (fun K hK => ?_) AllReadyH.nil)
  all_goals clear ho12
  go_simp
  refine hK.out _ _ ?_ (fun hS => ?_)
  · exact below_since (hS.2.setCell (Nat.le_refl _) _)
  clear hK K
  try simp only [Act.put, List.getElem_toArray, List.getElem_cons_zero, List.getElem_cons_succ, List.setIfInBounds_toArray, List.set_cons_zero, List.set_cons_succ]
  have ho : ops63[13]? = some (opAt ops63 13) := by kernel_rfl
  conv at ho => rhs; arg 1; whnf
  refine wpAnyH_take (i := 13) (v := ?_) ho (by kernel_rfl) (by kernel_rfl) (by kernel_rfl) (fun _ _ _ h => h) (Or.inl ⟨by kernel_rfl, ?_⟩) hS ?_
  clear ho
  rotate_left
  · intro w' hS'
    have hq := hS'.1
    have hq2 := hS'.2
    clear hS'
    first | (go_simp; done) | (go_simp; with_reducible rfl)
  try clear ho
  try simp only [Act.put, List.getElem_toArray, List.getElem_cons_zero, List.getElem_cons_succ, List.setIfInBounds_toArray, List.set_cons_zero, List.set_cons_succ]
  have ho : ops63[14]? = some (opAt ops63 14) := by kernel_rfl
  conv at ho => rhs; arg 1; whnf
  refine wpAnyH_take (i := 14) (v := ?_) ho (by kernel_rfl) (by kernel_rfl) (by kernel_rfl) (fun _ _ _ h => h) (Or.inl ⟨by kernel_rfl, ?_⟩) hS ?_
  clear ho
  rotate_left
  · intro w' hS'
    have hq := hS'.1
    have hq2 := hS'.2
    clear hS'
    first | (go_simp; done) | (go_simp; with_reducible rfl)
  try clear ho
  try simp only [Act.put, List.getElem_toArray, List.getElem_cons_zero, List.getElem_cons_succ, List.setIfInBounds_toArray, List.set_cons_zero, List.set_cons_succ]
  have ho15 : ops63[15]? = some (opAt ops63 15) := by kernel_rfl
  conv at ho15 => rhs; arg 1; whnf
  refine wpAnyH_ready (rs := [15]) (by kernel_rfl) (by simp) ?_
  refine (AllReadyH.cons ho15 (fun K hK => ?_) AllReadyH.nil)
  all_goals clear ho15
  go_simp
  refine hK.out _ _ ?_ (fun hS => ?_)
  · exact below_since (hS.2.setCell (Nat.le_refl _) _)
  clear hK K
  try simp only [Act.put, List.getElem_toArray, List.getElem_cons_zero, List.getElem_cons_succ, List.setIfInBounds_toArray, List.set_cons_zero, List.set_cons_succ]
  refine wpAnyH_done (by kernel_rfl) ?_ _
  refine NoPanic.normal ?_
  refine HQ.out _ _ _ _ _ _ _ _ _ _ _ _ _ _ _ (heap_store (heap_store (by exact HVb.out) _) _) hS.2
set_option maxRecDepth 1000000 in
set_option maxHeartbeats 16000000 in
theorem r64 {u0 u1 u2 u3 u4 u5 u6 u9 u10 u11 u12 u13 u14 u16 u17 u18 u19 u20 u21 u22 u23 u24 u25 u26 u27 u28 u29 u30 u31 u32 u33 u34 u35 u36 u37 u38 u39 u40 u41 u42 u43 u44 u45 u46 u47 u48 u49 u50 u51 u52 u53 u54 u55 u56 u57 u58 u59 u60 u61 u62 u63 u64 u65 u66 u67 u68 u69 u70 u71 u72 u73 u74 u75 u76 u77 u78 u79 u80 u81 u82 u83 u84 u85 u86 u87 u88 u89 u90 u91 u92 u93 u94 u95 u96 u97 u98 u99 u100 u101 u102 u103 u104 u105 u106 u107 u108 u109 u110 u111 u112 u113 u114 u115 u116 u117 u118 u119 u120 u121 u122 u123 u124 u125 u126 u127 u128 u129 u130 u131 u132 u133 u134 u135 u136 u137 u138 u139 u140 u141 u142 u143 u144 u145 u146 u147 u148 u149 u150 u151 u152 u153 u154 u155 u156 u157 u158 u159 u160 u161 u162 u163 u164 u165 u166 u167 u168 u169 u170 u171 u172 u173 u174 u175 u176 u177 u178 u179 u180 u181 u182 u183 u184 u185 u186 u187 u188 u189 u190 u191 u192 u193 u194 u195 u196 u197 u198 u199 u200 u201 u202 u203 u204 u205 u206 u207 u208 u209 u210 u211 u212 u213 u214 u215 u216 u217 u218 u219 u220 u221 u222 u223 u224 u225 u226 u227 u228 u229 u230 u231 u232 u233 u234 u235 u236 u237 u238 u239 u240 u241 u242 u243 u244 u245 u246 u247 u248 u249 u250 u251 u252 u253 u254 u255 u256 u257 u258 u259 u260 u261 u262 u263 u264 u265 u266 u267 u268 u269 u270 u271 u272 u273 u274 u275 u276 u277 u278 u279 u280 u281 u282 u283 u284 u285 u286 u287 u288 u289 u290 u291 u292 u293 u294 u295 u296 u297 u298 u299 u300 u301 u302 u303 u304 u305 u306 u307 u308 u309 u310 u311 u312 u313 u314 u315 u316 u317 u318 u319 u320 u321 u322 u323 u324 u325 u326 u327 u328 u329 u330 u331 u332 u333 u334 u335 u336 u337 u338 u339 u340 u341 u342 u343 u344 u345 u346 u347 u348 u349 u350 u351 u352 u353 u354 u355 u356 u357 u358 u359 u360 u361 u362 u363 u364 u365 u366 u367 u368 u369 u370 u371 u372 u373 u374 u375 u376 : Value} {U : World} {S BB NB gI n1 cI i k cy : Nat} {Ay : Option Addr} {alts : List LA} {D : CfgD} {L : List LF} (hUb : U.heap[NB]? = some (.cells #[.int .u8 (i : Int), .int .u8 (k : Int), .int .u8 0, .int .u8 0, .int .u8 0, .int .u8 0, .int .u8 0, .slice none 0 0, .slice none 0 0] 56 (0, 0))) (hBU : U.heap[BB]? = some (.cells (cfgBox D (.slice (some ⟨gI, 0, none⟩) n1 cI)) 32 (0, 0))) (hoI : Own lfT 50 S U (.slice (some ⟨gI, 0, none⟩) n1 cI) n1 L) (cIU : U.cell? ⟨gI, i, none⟩ = some (.slice Ay k cy)) (hown : Own laT 56 S U (.slice Ay k cy) k alts)
    (hneN : (Value.slice Ay k cy).ownBlock ≠ some NB) (hpok : (⟨(i : Int), (k : Int), 0, 0, 0, 0, 0⟩ : IfD).ok) (hSU : S ≤ U.heap.size) (hin : (i : Int) < (n1 : Int)) (hi0 : (0 : Int) ≤ (i : Int)) (hlt : k < 17)
    (Q : Exit → Act → World → Prop) (hQ : ∀ (s328 s329 s330 s331 s332 s333 s334 s335 s336 s337 s338 s339 s340 s341 : Value) (g9 cap9 : Nat) (w9 : World), Own laT 56 S w9 (.slice (some ⟨g9, 0, none⟩) (k + 1) cap9) (k + 1) (alts ++ [(⟨⟨⟨(i : Int), (k : Int), 0, 0, 0, 0, 0⟩, [], []⟩, .slice none 0 0, .slice none 0 0⟩ : LA)]) → (U.drew.alloc (.cells #[.int .u8 (i : Int), .int .u8 (k : Int), .int .u8 0, .int .u8 0, .int .u8 0, .int .u8 0, .int .u8 0, .slice none 0 0, .slice none 0 0] 56)).grownBy w9 (Value.slice Ay k cy).ownBlock → Moved (U.drew.alloc (.cells #[.int .u8 (i : Int), .int .u8 (k : Int), .int .u8 0, .int .u8 0, .int .u8 0, .int .u8 0, .int .u8 0, .slice none 0 0, .slice none 0 0] 56)) (.slice Ay k cy) (.slice (some ⟨g9, 0, none⟩) (k + 1) cap9) → Q .normal ⟨#[u0, u1, u2, u3, u4, u5, u6, .pointer (some ⟨BB, 0, none⟩), .int .i64 (i : Int), u9, u10, u11, u12, u13, u14, .pointer (some ⟨NB, 0, none⟩), u16, u17, u18, u19, u20, u21, u22, u23, u24, u25, u26, u27, u28, u29, u30, u31, u32, u33, u34, u35, u36, u37, u38, u39, u40, u41, u42, u43, u44, u45, u46, u47, u48, u49, u50, u51, u52, u53, u54, u55, u56, u57, u58, u59, u60, u61, u62, u63, u64, u65, u66, u67, u68, u69, u70, u71, u72, u73, u74, u75, u76, u77, u78, u79, u80, u81, u82, u83, u84, u85, u86, u87, u88, u89, u90, u91, u92, u93, u94, u95, u96, u97, u98, u99, u100, u101, u102, u103, u104, u105, u106, u107, u108, u109, u110, u111, u112, u113, u114, u115, u116, u117, u118, u119, u120, u121, u122, u123, u124, u125, u126, u127, u128, u129, u130, u131, u132, u133, u134, u135, u136, u137, u138, u139, u140, u141, u142, u143, u144, u145, u146, u147, u148, u149, u150, u151, u152, u153, u154, u155, u156, u157, u158, u159, u160, u161, u162, u163, u164, u165, u166, u167, u168, u169, u170, u171, u172, u173, u174, u175, u176, u177, u178, u179, u180, u181, u182, u183, u184, u185, u186, u187, u188, u189, u190, u191, u192, u193, u194, u195, u196, u197, u198, u199, u200, u201, u202, u203, u204, u205, u206, u207, u208, u209, u210, u211, u212, u213, u214, u215, u216, u217, u218, u219, u220, u221, u222, u223, u224, u225, u226, u227, u228, u229, u230, u231, u232, u233, u234, u235, u236, u237, u238, u239, u240, u241, u242, u243, u244, u245, u246, u247, u248, u249, u250, u251, u252, u253, u254, u255, u256, u257, u258, u259, u260, u261, u262, u263, u264, u265, u266, u267, u268, u269, u270, u271, u272, u273, u274, u275, u276, u277, u278, u279, u280, u281, u282, u283, u284, u285, u286, u287, u288, u289, u290, u291, u292, u293, u294, u295, u296, u297, u298, u299, u300, u301, u302, u303, u304, u305, u306, u307, u308, u309, u310, u311, u312, u313, u314, u315, u316, u317, u318, u319, u320, u321, u322, u323, u324, u325, u326, u327, s328, s329, s330, s331, s332, s333, s334, s335, s336, s337, s338, s339, s340, s341, u342, u343, u344, u345, u346, u347, u348, u349, u350, u351, u352, u353, u354, u355, u356, u357, u358, u359, u360, u361, u362, u363, u364, u365, u366, u367, u368, u369, u370, u371, u372, u373, u374, u375, u376], []⟩ (w9.setCell ⟨gI, i, none⟩ (.slice (some ⟨g9, 0, none⟩) (k + 1) cap9))) :
    Code.wp Tryd.prog (headC code64) Q ⟨#[u0, u1, u2, u3, u4, u5, u6, .pointer (some ⟨BB, 0, none⟩), .int .i64 (i : Int), u9, u10, u11, u12, u13, u14, .pointer (some ⟨NB, 0, none⟩), u16, u17, u18, u19, u20, u21, u22, u23, u24, u25, u26, u27, u28, u29, u30, u31, u32, u33, u34, u35, u36, u37, u38, u39, u40, u41, u42, u43, u44, u45, u46, u47, u48, u49, u50, u51, u52, u53, u54, u55, u56, u57, u58, u59, u60, u61, u62, u63, u64, u65, u66, u67, u68, u69, u70, u71, u72, u73, u74, u75, u76, u77, u78, u79, u80, u81, u82, u83, u84, u85, u86, u87, u88, u89, u90, u91, u92, u93, u94, u95, u96, u97, u98, u99, u100, u101, u102, u103, u104, u105, u106, u107, u108, u109, u110, u111, u112, u113, u114, u115, u116, u117, u118, u119, u120, u121, u122, u123, u124, u125, u126, u127, u128, u129, u130, u131, u132, u133, u134, u135, u136, u137, u138, u139, u140, u141, u142, u143, u144, u145, u146, u147, u148, u149, u150, u151, u152, u153, u154, u155, u156, u157, u158, u159, u160, u161, u162, u163, u164, u165, u166, u167, u168, u169, u170, u171, u172, u173, u174, u175, u176, u177, u178, u179, u180, u181, u182, u183, u184, u185, u186, u187, u188, u189, u190, u191, u192, u193, u194, u195, u196, u197, u198, u199, u200, u201, u202, u203, u204, u205, u206, u207, u208, u209, u210, u211, u212, u213, u214, u215, u216, u217, u218, u219, u220, u221, u222, u223, u224, u225, u226, u227, u228, u229, u230, u231, u232, u233, u234, u235, u236, u237, u238, u239, u240, u241, u242, u243, u244, u245, u246, u247, u248, u249, u250, u251, u252, u253, u254, u255, u256, u257, u258, u259, u260, u261, u262, u263, u264, u265, u266, u267, u268, u269, u270, u271, u272, u273, u274, u275, u276, u277, u278, u279, u280, u281, u282, u283, u284, u285, u286, u287, u288, u289, u290, u291, u292, u293, u294, u295, u296, u297, u298, u299, u300, u301, u302, u303, u304, u305, u306, u307, u308, u309, u310, u311, u312, u313, u314, u315, u316, u317, u318, u319, u320, u321, u322, u323, u324, u325, u326, u327, u328, u329, u330, u331, u332, u333, u334, u335, u336, u337, u338, u339, u340, u341, u342, u343, u344, u345, u346, u347, u348, u349, u350, u351, u352, u353, u354, u355, u356, u357, u358, u359, u360, u361, u362, u363, u364, u365, u366, u367, u368, u369, u370, u371, u372, u373, u374, u375, u376], []⟩ U := by
  obtain ⟨iA, hiA, hA0, hA1, hA2⟩ := info_parts infoAlt
  obtain ⟨_, curI, _, hhI⟩ := ownBlock_heap hoI rfl
  have b7U : U.cell? ⟨BB, 7, none⟩ = some (.slice (some ⟨gI, 0, none⟩) n1 cI) := cell_heap hBU (o := 7) rfl
  have u0c : U.cell? ⟨NB, 0, none⟩ = some (.int .u8 (i : Int)) := cell_heap hUb (o := 0) rfl; have u1c : U.cell? ⟨NB, 1, none⟩ = some (.int .u8 (k : Int)) := cell_heap hUb (o := 1) rfl; have u2c : U.cell? ⟨NB, 2, none⟩ = some (.int .u8 0) := cell_heap hUb (o := 2) rfl; have u3c : U.cell? ⟨NB, 3, none⟩ = some (.int .u8 0) := cell_heap hUb (o := 3) rfl; have u4c : U.cell? ⟨NB, 4, none⟩ = some (.int .u8 0) := cell_heap hUb (o := 4) rfl; have u5c : U.cell? ⟨NB, 5, none⟩ = some (.int .u8 0) := cell_heap hUb (o := 5) rfl; have u6c : U.cell? ⟨NB, 6, none⟩ = some (.int .u8 0) := cell_heap hUb (o := 6) rfl; have u7c : U.cell? ⟨NB, 7, none⟩ = some (.slice none 0 0) := cell_heap hUb (o := 7) rfl; have u8c : U.cell? ⟨NB, 8, none⟩ = some (.slice none 0 0) := cell_heap hUb (o := 8) rfl
  have lU := heap_lt hUb
  have lBU := heap_lt hBU
  have lIU : gI < U.heap.size := heap_lt hhI
  have fIU := frozen_heap hhI (o := i)
  have hneI : (Value.slice Ay k cy).ownBlock ≠ some gI := fun e => by
    rcases rows_apart hown hoI (by decide) with h1 | h1
    · rw [h1] at e; cases e
    · exact h1 (e.trans rfl)
  have hneB : (Value.slice Ay k cy).ownBlock ≠ some BB := own_ne hown hBU (by decide)
  obtain ⟨A0, cz, hcz, hy1, hy2⟩ := hown.isSlice
  injection hcz with hca hcn hcz
  subst hca hcz
  clear hcn
  have HgB := hide (show ¬ BB = gI from fun e => own_ne hoI hBU (by decide) (by rw [e]; rfl))
  have HgN := hide (show ¬ NB = gI from fun e => own_ne hoI hUb (by decide) (by rw [e]; rfl))
  have HneI := hide hneI
  have HneB := hide hneB
  have HneN := hide hneN
  have HIU := hide hhI
  have HBU := hide hBU
  have HUb := hide hUb
  have Hown := hide hown
  have Hpok := hide hpok
  have HQ := hide hQ
  clear hneI hneB hneN hhI hBU hUb hown hoI hpok hQ
  conv => arg 2; whnf
  refine wp_region_noPanic ?_
  refine wp_region_held_named (ops' := ops64) (n := 15) (S := fun w' => w'.heap[BB]? = some (.cells (cfgBox D (.slice (some ⟨gI, 0, none⟩) n1 cI)) 32 (0, 0)) ∧ w'.heap[NB]? = some (.cells #[.int .u8 (i : Int), .int .u8 (k : Int), .int .u8 0, .int .u8 0, .int .u8 0, .int .u8 0, .int .u8 0, .slice none 0 0, .slice none 0 0] 56 (0, 0))) (by kernel_rfl) (by kernel_rfl) (by kernel_rfl) ⟨HBU.out, HUb.out⟩ (fun hS => ?_)
  have ho : ops64[0]? = some (opAt ops64 0) := by kernel_rfl
  conv at ho => rhs; arg 1; whnf
  refine wpAnyH_take (i := 0) (v := ?_) ho (by kernel_rfl) (by kernel_rfl) (by kernel_rfl) (fun _ _ _ h => h) (Or.inl ⟨by kernel_rfl, ?_⟩) hS ?_
  clear ho
  rotate_left
  · intro w' hS'
    have hq := hS'.1
    have hq2 := hS'.2
    clear hS'
    have e7 : w'.cell? ⟨BB, 7, none⟩ = some (.slice (some ⟨gI, 0, none⟩) n1 cI) := cell_heap hq (o := 7) rfl
    have e0c : w'.cell? ⟨NB, 0, none⟩ = some (.int .u8 (i : Int)) := cell_heap hq2 (o := 0) rfl; have e1c : w'.cell? ⟨NB, 1, none⟩ = some (.int .u8 (k : Int)) := cell_heap hq2 (o := 1) rfl; have e2c : w'.cell? ⟨NB, 2, none⟩ = some (.int .u8 0) := cell_heap hq2 (o := 2) rfl; have e3c : w'.cell? ⟨NB, 3, none⟩ = some (.int .u8 0) := cell_heap hq2 (o := 3) rfl; have e4c : w'.cell? ⟨NB, 4, none⟩ = some (.int .u8 0) := cell_heap hq2 (o := 4) rfl; have e5c : w'.cell? ⟨NB, 5, none⟩ = some (.int .u8 0) := cell_heap hq2 (o := 5) rfl; have e6c : w'.cell? ⟨NB, 6, none⟩ = some (.int .u8 0) := cell_heap hq2 (o := 6) rfl; have e7c : w'.cell? ⟨NB, 7, none⟩ = some (.slice none 0 0) := cell_heap hq2 (o := 7) rfl; have e8c : w'.cell? ⟨NB, 8, none⟩ = some (.slice none 0 0) := cell_heap hq2 (o := 8) rfl
    clear hq hq2
    first | (go_simp; done) | (go_simp; with_reducible rfl)
  try clear ho
  try simp only [Act.put, List.getElem_toArray, List.getElem_cons_zero, List.getElem_cons_succ, List.setIfInBounds_toArray, List.set_cons_zero, List.set_cons_succ]
  have ho : ops64[1]? = some (opAt ops64 1) := by kernel_rfl
  conv at ho => rhs; arg 1; whnf
  refine wpAnyH_take (i := 1) (v := ?_) ho (by kernel_rfl) (by kernel_rfl) (by kernel_rfl) (fun _ _ _ h => h) (Or.inl ⟨by kernel_rfl, ?_⟩) hS ?_
  clear ho
  rotate_left
  · intro w' hS'
    have hq := hS'.1
    have hq2 := hS'.2
    clear hS'
    have e7 : w'.cell? ⟨BB, 7, none⟩ = some (.slice (some ⟨gI, 0, none⟩) n1 cI) := cell_heap hq (o := 7) rfl
    have e0c : w'.cell? ⟨NB, 0, none⟩ = some (.int .u8 (i : Int)) := cell_heap hq2 (o := 0) rfl; have e1c : w'.cell? ⟨NB, 1, none⟩ = some (.int .u8 (k : Int)) := cell_heap hq2 (o := 1) rfl; have e2c : w'.cell? ⟨NB, 2, none⟩ = some (.int .u8 0) := cell_heap hq2 (o := 2) rfl; have e3c : w'.cell? ⟨NB, 3, none⟩ = some (.int .u8 0) := cell_heap hq2 (o := 3) rfl; have e4c : w'.cell? ⟨NB, 4, none⟩ = some (.int .u8 0) := cell_heap hq2 (o := 4) rfl; have e5c : w'.cell? ⟨NB, 5, none⟩ = some (.int .u8 0) := cell_heap hq2 (o := 5) rfl; have e6c : w'.cell? ⟨NB, 6, none⟩ = some (.int .u8 0) := cell_heap hq2 (o := 6) rfl; have e7c : w'.cell? ⟨NB, 7, none⟩ = some (.slice none 0 0) := cell_heap hq2 (o := 7) rfl; have e8c : w'.cell? ⟨NB, 8, none⟩ = some (.slice none 0 0) := cell_heap hq2 (o := 8) rfl
    clear hq hq2
    first | (go_simp; done) | (go_simp; with_reducible rfl)
  try clear ho
  try simp only [Act.put, List.getElem_toArray, List.getElem_cons_zero, List.getElem_cons_succ, List.setIfInBounds_toArray, List.set_cons_zero, List.set_cons_succ]
  have ho : ops64[2]? = some (opAt ops64 2) := by kernel_rfl
  conv at ho => rhs; arg 1; whnf
  refine wpAnyH_take (i := 2) (v := ?_) ho (by kernel_rfl) (by kernel_rfl) (by kernel_rfl) (fun _ _ _ h => h) (Or.inl ⟨by kernel_rfl, ?_⟩) hS ?_
  clear ho
  rotate_left
  · intro w' hS'
    have hq := hS'.1
    have hq2 := hS'.2
    clear hS'
    have e7 : w'.cell? ⟨BB, 7, none⟩ = some (.slice (some ⟨gI, 0, none⟩) n1 cI) := cell_heap hq (o := 7) rfl
    have e0c : w'.cell? ⟨NB, 0, none⟩ = some (.int .u8 (i : Int)) := cell_heap hq2 (o := 0) rfl; have e1c : w'.cell? ⟨NB, 1, none⟩ = some (.int .u8 (k : Int)) := cell_heap hq2 (o := 1) rfl; have e2c : w'.cell? ⟨NB, 2, none⟩ = some (.int .u8 0) := cell_heap hq2 (o := 2) rfl; have e3c : w'.cell? ⟨NB, 3, none⟩ = some (.int .u8 0) := cell_heap hq2 (o := 3) rfl; have e4c : w'.cell? ⟨NB, 4, none⟩ = some (.int .u8 0) := cell_heap hq2 (o := 4) rfl; have e5c : w'.cell? ⟨NB, 5, none⟩ = some (.int .u8 0) := cell_heap hq2 (o := 5) rfl; have e6c : w'.cell? ⟨NB, 6, none⟩ = some (.int .u8 0) := cell_heap hq2 (o := 6) rfl; have e7c : w'.cell? ⟨NB, 7, none⟩ = some (.slice none 0 0) := cell_heap hq2 (o := 7) rfl; have e8c : w'.cell? ⟨NB, 8, none⟩ = some (.slice none 0 0) := cell_heap hq2 (o := 8) rfl
    clear hq hq2
    first | (go_simp; done) | (go_simp; with_reducible rfl)
  try clear ho
  try simp only [Act.put, List.getElem_toArray, List.getElem_cons_zero, List.getElem_cons_succ, List.setIfInBounds_toArray, List.set_cons_zero, List.set_cons_succ]
  have ho : ops64[3]? = some (opAt ops64 3) := by kernel_rfl
  conv at ho => rhs; arg 1; whnf
  refine wpAnyH_take (i := 3) (v := ?_) ho (by kernel_rfl) (by kernel_rfl) (by kernel_rfl) (fun _ _ _ h => h) (Or.inl ⟨by kernel_rfl, ?_⟩) hS ?_
  clear ho
  rotate_left
  · intro w' hS'
    have hq := hS'.1
    have hq2 := hS'.2
    clear hS'
    have e7 : w'.cell? ⟨BB, 7, none⟩ = some (.slice (some ⟨gI, 0, none⟩) n1 cI) := cell_heap hq (o := 7) rfl
    have e0c : w'.cell? ⟨NB, 0, none⟩ = some (.int .u8 (i : Int)) := cell_heap hq2 (o := 0) rfl; have e1c : w'.cell? ⟨NB, 1, none⟩ = some (.int .u8 (k : Int)) := cell_heap hq2 (o := 1) rfl; have e2c : w'.cell? ⟨NB, 2, none⟩ = some (.int .u8 0) := cell_heap hq2 (o := 2) rfl; have e3c : w'.cell? ⟨NB, 3, none⟩ = some (.int .u8 0) := cell_heap hq2 (o := 3) rfl; have e4c : w'.cell? ⟨NB, 4, none⟩ = some (.int .u8 0) := cell_heap hq2 (o := 4) rfl; have e5c : w'.cell? ⟨NB, 5, none⟩ = some (.int .u8 0) := cell_heap hq2 (o := 5) rfl; have e6c : w'.cell? ⟨NB, 6, none⟩ = some (.int .u8 0) := cell_heap hq2 (o := 6) rfl; have e7c : w'.cell? ⟨NB, 7, none⟩ = some (.slice none 0 0) := cell_heap hq2 (o := 7) rfl; have e8c : w'.cell? ⟨NB, 8, none⟩ = some (.slice none 0 0) := cell_heap hq2 (o := 8) rfl
    clear hq hq2
    first | (go_simp; done) | (go_simp; with_reducible rfl)
  try clear ho
  try simp only [Act.put, List.getElem_toArray, List.getElem_cons_zero, List.getElem_cons_succ, List.setIfInBounds_toArray, List.set_cons_zero, List.set_cons_succ]
  have ho : ops64[4]? = some (opAt ops64 4) := by kernel_rfl
  conv at ho => rhs; arg 1; whnf
  refine wpAnyH_take (i := 4) (v := ?_) ho (by kernel_rfl) (by kernel_rfl) (by kernel_rfl) (fun _ _ _ h => h) (Or.inl ⟨by kernel_rfl, ?_⟩) hS ?_
  clear ho
  rotate_left
  · intro w' hS'
    have hq := hS'.1
    have hq2 := hS'.2
    clear hS'
    have e7 : w'.cell? ⟨BB, 7, none⟩ = some (.slice (some ⟨gI, 0, none⟩) n1 cI) := cell_heap hq (o := 7) rfl
    have e0c : w'.cell? ⟨NB, 0, none⟩ = some (.int .u8 (i : Int)) := cell_heap hq2 (o := 0) rfl; have e1c : w'.cell? ⟨NB, 1, none⟩ = some (.int .u8 (k : Int)) := cell_heap hq2 (o := 1) rfl; have e2c : w'.cell? ⟨NB, 2, none⟩ = some (.int .u8 0) := cell_heap hq2 (o := 2) rfl; have e3c : w'.cell? ⟨NB, 3, none⟩ = some (.int .u8 0) := cell_heap hq2 (o := 3) rfl; have e4c : w'.cell? ⟨NB, 4, none⟩ = some (.int .u8 0) := cell_heap hq2 (o := 4) rfl; have e5c : w'.cell? ⟨NB, 5, none⟩ = some (.int .u8 0) := cell_heap hq2 (o := 5) rfl; have e6c : w'.cell? ⟨NB, 6, none⟩ = some (.int .u8 0) := cell_heap hq2 (o := 6) rfl; have e7c : w'.cell? ⟨NB, 7, none⟩ = some (.slice none 0 0) := cell_heap hq2 (o := 7) rfl; have e8c : w'.cell? ⟨NB, 8, none⟩ = some (.slice none 0 0) := cell_heap hq2 (o := 8) rfl
    clear hq hq2
    first | (go_simp; done) | (go_simp; with_reducible rfl)
  try clear ho
  try simp only [Act.put, List.getElem_toArray, List.getElem_cons_zero, List.getElem_cons_succ, List.setIfInBounds_toArray, List.set_cons_zero, List.set_cons_succ]
  have ho : ops64[5]? = some (opAt ops64 5) := by kernel_rfl
  conv at ho => rhs; arg 1; whnf
  refine wpAnyH_take (i := 5) (v := ?_) ho (by kernel_rfl) (by kernel_rfl) (by kernel_rfl) (fun _ _ _ h => h) (Or.inl ⟨by kernel_rfl, ?_⟩) hS ?_
  clear ho
  rotate_left
  · intro w' hS'
    have hq := hS'.1
    have hq2 := hS'.2
    clear hS'
    have e7 : w'.cell? ⟨BB, 7, none⟩ = some (.slice (some ⟨gI, 0, none⟩) n1 cI) := cell_heap hq (o := 7) rfl
    have e0c : w'.cell? ⟨NB, 0, none⟩ = some (.int .u8 (i : Int)) := cell_heap hq2 (o := 0) rfl; have e1c : w'.cell? ⟨NB, 1, none⟩ = some (.int .u8 (k : Int)) := cell_heap hq2 (o := 1) rfl; have e2c : w'.cell? ⟨NB, 2, none⟩ = some (.int .u8 0) := cell_heap hq2 (o := 2) rfl; have e3c : w'.cell? ⟨NB, 3, none⟩ = some (.int .u8 0) := cell_heap hq2 (o := 3) rfl; have e4c : w'.cell? ⟨NB, 4, none⟩ = some (.int .u8 0) := cell_heap hq2 (o := 4) rfl; have e5c : w'.cell? ⟨NB, 5, none⟩ = some (.int .u8 0) := cell_heap hq2 (o := 5) rfl; have e6c : w'.cell? ⟨NB, 6, none⟩ = some (.int .u8 0) := cell_heap hq2 (o := 6) rfl; have e7c : w'.cell? ⟨NB, 7, none⟩ = some (.slice none 0 0) := cell_heap hq2 (o := 7) rfl; have e8c : w'.cell? ⟨NB, 8, none⟩ = some (.slice none 0 0) := cell_heap hq2 (o := 8) rfl
    clear hq hq2
    first | (go_simp; done) | (go_simp; with_reducible rfl)
  try clear ho
  try simp only [Act.put, List.getElem_toArray, List.getElem_cons_zero, List.getElem_cons_succ, List.setIfInBounds_toArray, List.set_cons_zero, List.set_cons_succ]
  have ho : ops64[6]? = some (opAt ops64 6) := by kernel_rfl
  conv at ho => rhs; arg 1; whnf
  refine wpAnyH_take (i := 6) (v := ?_) ho (by kernel_rfl) (by kernel_rfl) (by kernel_rfl) (fun _ _ _ h => h) (Or.inl ⟨by kernel_rfl, ?_⟩) hS ?_
  clear ho
  rotate_left
  · intro w' hS'
    have hq := hS'.1
    have hq2 := hS'.2
    clear hS'
    have e7 : w'.cell? ⟨BB, 7, none⟩ = some (.slice (some ⟨gI, 0, none⟩) n1 cI) := cell_heap hq (o := 7) rfl
    have e0c : w'.cell? ⟨NB, 0, none⟩ = some (.int .u8 (i : Int)) := cell_heap hq2 (o := 0) rfl; have e1c : w'.cell? ⟨NB, 1, none⟩ = some (.int .u8 (k : Int)) := cell_heap hq2 (o := 1) rfl; have e2c : w'.cell? ⟨NB, 2, none⟩ = some (.int .u8 0) := cell_heap hq2 (o := 2) rfl; have e3c : w'.cell? ⟨NB, 3, none⟩ = some (.int .u8 0) := cell_heap hq2 (o := 3) rfl; have e4c : w'.cell? ⟨NB, 4, none⟩ = some (.int .u8 0) := cell_heap hq2 (o := 4) rfl; have e5c : w'.cell? ⟨NB, 5, none⟩ = some (.int .u8 0) := cell_heap hq2 (o := 5) rfl; have e6c : w'.cell? ⟨NB, 6, none⟩ = some (.int .u8 0) := cell_heap hq2 (o := 6) rfl; have e7c : w'.cell? ⟨NB, 7, none⟩ = some (.slice none 0 0) := cell_heap hq2 (o := 7) rfl; have e8c : w'.cell? ⟨NB, 8, none⟩ = some (.slice none 0 0) := cell_heap hq2 (o := 8) rfl
    clear hq hq2
    first | (go_simp; done) | (go_simp; with_reducible rfl)
  try clear ho
  try simp only [Act.put, List.getElem_toArray, List.getElem_cons_zero, List.getElem_cons_succ, List.setIfInBounds_toArray, List.set_cons_zero, List.set_cons_succ]
  have ho : ops64[7]? = some (opAt ops64 7) := by kernel_rfl
  conv at ho => rhs; arg 1; whnf
  refine wpAnyH_take (i := 7) (v := ?_) ho (by kernel_rfl) (by kernel_rfl) (by kernel_rfl) (fun _ _ _ h => h) (Or.inl ⟨by kernel_rfl, ?_⟩) hS ?_
  clear ho
  rotate_left
  · intro w' hS'
    have hq := hS'.1
    have hq2 := hS'.2
    clear hS'
    have e7 : w'.cell? ⟨BB, 7, none⟩ = some (.slice (some ⟨gI, 0, none⟩) n1 cI) := cell_heap hq (o := 7) rfl
    have e0c : w'.cell? ⟨NB, 0, none⟩ = some (.int .u8 (i : Int)) := cell_heap hq2 (o := 0) rfl; have e1c : w'.cell? ⟨NB, 1, none⟩ = some (.int .u8 (k : Int)) := cell_heap hq2 (o := 1) rfl; have e2c : w'.cell? ⟨NB, 2, none⟩ = some (.int .u8 0) := cell_heap hq2 (o := 2) rfl; have e3c : w'.cell? ⟨NB, 3, none⟩ = some (.int .u8 0) := cell_heap hq2 (o := 3) rfl; have e4c : w'.cell? ⟨NB, 4, none⟩ = some (.int .u8 0) := cell_heap hq2 (o := 4) rfl; have e5c : w'.cell? ⟨NB, 5, none⟩ = some (.int .u8 0) := cell_heap hq2 (o := 5) rfl; have e6c : w'.cell? ⟨NB, 6, none⟩ = some (.int .u8 0) := cell_heap hq2 (o := 6) rfl; have e7c : w'.cell? ⟨NB, 7, none⟩ = some (.slice none 0 0) := cell_heap hq2 (o := 7) rfl; have e8c : w'.cell? ⟨NB, 8, none⟩ = some (.slice none 0 0) := cell_heap hq2 (o := 8) rfl
    clear hq hq2
    first | (go_simp; done) | (go_simp; with_reducible rfl)
  try clear ho
  try simp only [Act.put, List.getElem_toArray, List.getElem_cons_zero, List.getElem_cons_succ, List.setIfInBounds_toArray, List.set_cons_zero, List.set_cons_succ]
  have ho : ops64[9]? = some (opAt ops64 9) := by kernel_rfl
  conv at ho => rhs; arg 1; whnf
  refine wpAnyH_take (i := 9) (v := ?_) ho (by kernel_rfl) (by kernel_rfl) (by kernel_rfl) (fun _ _ _ h => h) (Or.inl ⟨by kernel_rfl, ?_⟩) hS ?_
  clear ho
  rotate_left
  · intro w' hS'
    have hq := hS'.1
    have hq2 := hS'.2
    clear hS'
    have e7 : w'.cell? ⟨BB, 7, none⟩ = some (.slice (some ⟨gI, 0, none⟩) n1 cI) := cell_heap hq (o := 7) rfl
    have e0c : w'.cell? ⟨NB, 0, none⟩ = some (.int .u8 (i : Int)) := cell_heap hq2 (o := 0) rfl; have e1c : w'.cell? ⟨NB, 1, none⟩ = some (.int .u8 (k : Int)) := cell_heap hq2 (o := 1) rfl; have e2c : w'.cell? ⟨NB, 2, none⟩ = some (.int .u8 0) := cell_heap hq2 (o := 2) rfl; have e3c : w'.cell? ⟨NB, 3, none⟩ = some (.int .u8 0) := cell_heap hq2 (o := 3) rfl; have e4c : w'.cell? ⟨NB, 4, none⟩ = some (.int .u8 0) := cell_heap hq2 (o := 4) rfl; have e5c : w'.cell? ⟨NB, 5, none⟩ = some (.int .u8 0) := cell_heap hq2 (o := 5) rfl; have e6c : w'.cell? ⟨NB, 6, none⟩ = some (.int .u8 0) := cell_heap hq2 (o := 6) rfl; have e7c : w'.cell? ⟨NB, 7, none⟩ = some (.slice none 0 0) := cell_heap hq2 (o := 7) rfl; have e8c : w'.cell? ⟨NB, 8, none⟩ = some (.slice none 0 0) := cell_heap hq2 (o := 8) rfl
    clear hq hq2
    first | (go_simp; done) | (go_simp; with_reducible rfl)
  try clear ho
  try simp only [Act.put, List.getElem_toArray, List.getElem_cons_zero, List.getElem_cons_succ, List.setIfInBounds_toArray, List.set_cons_zero, List.set_cons_succ]
  have ho8 : ops64[8]? = some (opAt ops64 8) := by kernel_rfl
  conv at ho8 => rhs; arg 1; whnf
  have ho10 : ops64[10]? = some (opAt ops64 10) := by kernel_rfl
  conv at ho10 => rhs; arg 1; whnf
  refine wpAnyH_ready (rs := [8, 10]) (by kernel_rfl) (by simp) ?_
  refine (AllReadyH.cons ho8 (fun K hK => ?_) (AllReadyH.cons ho10 (fun K hK => ?_) AllReadyH.nil))
  all_goals clear ho8 ho10
  · go_simp
    refine hK.out _ _ ?_ (fun hS => ?_)
    · exact ⟨HBU.out, HUb.out⟩
    clear hK K
    try simp only [Act.put, List.getElem_toArray, List.getElem_cons_zero, List.getElem_cons_succ, List.setIfInBounds_toArray, List.set_cons_zero, List.set_cons_succ]
    have ho10 : ops64[10]? = some (opAt ops64 10) := by kernel_rfl
    conv at ho10 => rhs; arg 1; whnf
    refine wpAnyH_ready (rs := [10]) (by kernel_rfl) (by simp) ?_
    refine (AllReadyH.cons ho10 (fun K hK => ?_) AllReadyH.nil)
    all_goals clear ho10
    go_simp
    refine hK.out _ _ ?_ (fun hS => ?_)
    · exact ⟨heap_past HBU.out, heap_past HUb.out⟩
    clear hK K
    try simp only [Act.put, List.getElem_toArray, List.getElem_cons_zero, List.getElem_cons_succ, List.setIfInBounds_toArray, List.set_cons_zero, List.set_cons_succ]
    have ho11 : ops64[11]? = some (opAt ops64 11) := by kernel_rfl
    conv at ho11 => rhs; arg 1; whnf
    refine wpAnyH_ready (rs := [11]) (by kernel_rfl) (by simp) ?_
    refine (AllReadyH.cons ho11 (fun K hK => ?_) AllReadyH.nil)
    all_goals clear ho11
    refine step_append_el (T := laT) rfl (.tmp 336) (.tmp 338) 48 rfl S 56 iA _ 56 Tryd.underlying48 hiA hA0 hA1 hA2 rfl (by exact (by decide : 0 < 9)) _ k alts (by rfl) (Hown.out.drew.alloc _) U.heap.size _ _ (⟨⟨⟨(i : Int), (k : Int), 0, 0, 0, 0, 0⟩, [], []⟩, .slice none 0 0, .slice none 0 0⟩ : LA) (by rfl) (heap_at _ rfl) (by exact ⟨rfl, Hpok.out⟩) (by simp [Value.oneCell']) (by unfold maxLen; omega) (by omega) (by simp; omega) ?_
    intro g9 cap9 w9 hown9 hg9 hb9 hat9 hlt9
    have hI9 := heap_grown hg9 (heap_past HIU.out) (fun e => HneI.out e.symm)
    have cI9 : w9.cell? ⟨gI, i, none⟩ = some (.slice Ay k cy) := (cell_of_row _ _ _ _ _ _ hI9).trans ((cell_of_row _ _ _ _ _ _ HIU.out).symm.trans cIU)
    have fI9 := frozen_heap hI9 (o := i)
    have lI9 : gI < w9.heap.size := heap_lt hI9
    have hB9 := heap_grown hg9 (heap_past HBU.out) (fun e => HneB.out e.symm)
    have hN9 := heap_grown hg9 (heap_past HUb.out) (fun e => HneN.out e.symm)
    refine hK.out _ _ ?_ (fun hS => ?_)
    · exact ⟨hB9, hN9⟩
    clear hK K
    try simp only [Act.put, List.getElem_toArray, List.getElem_cons_zero, List.getElem_cons_succ, List.setIfInBounds_toArray, List.set_cons_zero, List.set_cons_succ]
    have ho : ops64[12]? = some (opAt ops64 12) := by kernel_rfl
    conv at ho => rhs; arg 1; whnf
    refine wpAnyH_take (i := 12) (v := ?_) ho (by kernel_rfl) (by kernel_rfl) (by kernel_rfl) (fun _ _ _ h => h) (Or.inl ⟨by kernel_rfl, ?_⟩) hS ?_
    clear ho
    rotate_left
    · intro w' hS'
      have hq := hS'.1
      have hq2 := hS'.2
      clear hS'
      have e7 : w'.cell? ⟨BB, 7, none⟩ = some (.slice (some ⟨gI, 0, none⟩) n1 cI) := cell_heap hq (o := 7) rfl
      have e0c : w'.cell? ⟨NB, 0, none⟩ = some (.int .u8 (i : Int)) := cell_heap hq2 (o := 0) rfl; have e1c : w'.cell? ⟨NB, 1, none⟩ = some (.int .u8 (k : Int)) := cell_heap hq2 (o := 1) rfl; have e2c : w'.cell? ⟨NB, 2, none⟩ = some (.int .u8 0) := cell_heap hq2 (o := 2) rfl; have e3c : w'.cell? ⟨NB, 3, none⟩ = some (.int .u8 0) := cell_heap hq2 (o := 3) rfl; have e4c : w'.cell? ⟨NB, 4, none⟩ = some (.int .u8 0) := cell_heap hq2 (o := 4) rfl; have e5c : w'.cell? ⟨NB, 5, none⟩ = some (.int .u8 0) := cell_heap hq2 (o := 5) rfl; have e6c : w'.cell? ⟨NB, 6, none⟩ = some (.int .u8 0) := cell_heap hq2 (o := 6) rfl; have e7c : w'.cell? ⟨NB, 7, none⟩ = some (.slice none 0 0) := cell_heap hq2 (o := 7) rfl; have e8c : w'.cell? ⟨NB, 8, none⟩ = some (.slice none 0 0) := cell_heap hq2 (o := 8) rfl
      clear hq hq2
      first | (go_simp; done) | (go_simp; with_reducible rfl)
    try clear ho
    try simp only [Act.put, List.getElem_toArray, List.getElem_cons_zero, List.getElem_cons_succ, List.setIfInBounds_toArray, List.set_cons_zero, List.set_cons_succ]
    have ho : ops64[13]? = some (opAt ops64 13) := by kernel_rfl
    conv at ho => rhs; arg 1; whnf
    refine wpAnyH_take (i := 13) (v := ?_) ho (by kernel_rfl) (by kernel_rfl) (by kernel_rfl) (fun _ _ _ h => h) (Or.inl ⟨by kernel_rfl, ?_⟩) hS ?_
    clear ho
    rotate_left
    · intro w' hS'
      have hq := hS'.1
      have hq2 := hS'.2
      clear hS'
      have e7 : w'.cell? ⟨BB, 7, none⟩ = some (.slice (some ⟨gI, 0, none⟩) n1 cI) := cell_heap hq (o := 7) rfl
      have e0c : w'.cell? ⟨NB, 0, none⟩ = some (.int .u8 (i : Int)) := cell_heap hq2 (o := 0) rfl; have e1c : w'.cell? ⟨NB, 1, none⟩ = some (.int .u8 (k : Int)) := cell_heap hq2 (o := 1) rfl; have e2c : w'.cell? ⟨NB, 2, none⟩ = some (.int .u8 0) := cell_heap hq2 (o := 2) rfl; have e3c : w'.cell? ⟨NB, 3, none⟩ = some (.int .u8 0) := cell_heap hq2 (o := 3) rfl; have e4c : w'.cell? ⟨NB, 4, none⟩ = some (.int .u8 0) := cell_heap hq2 (o := 4) rfl; have e5c : w'.cell? ⟨NB, 5, none⟩ = some (.int .u8 0) := cell_heap hq2 (o := 5) rfl; have e6c : w'.cell? ⟨NB, 6, none⟩ = some (.int .u8 0) := cell_heap hq2 (o := 6) rfl; have e7c : w'.cell? ⟨NB, 7, none⟩ = some (.slice none 0 0) := cell_heap hq2 (o := 7) rfl; have e8c : w'.cell? ⟨NB, 8, none⟩ = some (.slice none 0 0) := cell_heap hq2 (o := 8) rfl
      clear hq hq2
      first | (go_simp; done) | (go_simp; with_reducible rfl)
    try clear ho
    try simp only [Act.put, List.getElem_toArray, List.getElem_cons_zero, List.getElem_cons_succ, List.setIfInBounds_toArray, List.set_cons_zero, List.set_cons_succ]
    have ho14 : ops64[14]? = some (opAt ops64 14) := by kernel_rfl
    conv at ho14 => rhs; arg 1; whnf
    refine wpAnyH_ready (rs := [14]) (by kernel_rfl) (by simp) ?_
    refine (AllReadyH.cons ho14 (fun K hK => ?_) AllReadyH.nil)
    all_goals clear ho14
    go_simp
    refine hK.out _ _ ?_ (fun hS => ?_)
    · exact ⟨heap_other hB9 (fun e => HgB.out e), heap_other hN9 (fun e => HgN.out e)⟩
    clear hK K
    try simp only [Act.put, List.getElem_toArray, List.getElem_cons_zero, List.getElem_cons_succ, List.setIfInBounds_toArray, List.set_cons_zero, List.set_cons_succ]
    refine wpAnyH_done (by kernel_rfl) ?_ _
    refine NoPanic.normal ?_
    exact HQ.out _ _ _ _ _ _ _ _ _ _ _ _ _ _ _ _ _ hown9 hg9 (hat9.elim (fun h => .inl h.symm) (fun h => .inr ⟨g9, rfl, (by first | omega | exact Nat.le_of_eq h.symm)⟩))
  · go_simp
    refine hK.out _ _ ?_ (fun hS => ?_)
    · exact ⟨heap_past HBU.out, heap_past HUb.out⟩
    clear hK K
    try simp only [Act.put, List.getElem_toArray, List.getElem_cons_zero, List.getElem_cons_succ, List.setIfInBounds_toArray, List.set_cons_zero, List.set_cons_succ]
    have ho8 : ops64[8]? = some (opAt ops64 8) := by kernel_rfl
    conv at ho8 => rhs; arg 1; whnf
    refine wpAnyH_ready (rs := [8]) (by kernel_rfl) (by simp) ?_
    refine (AllReadyH.cons ho8 (fun K hK => ?_) AllReadyH.nil)
    all_goals clear ho8
    go_simp
    refine hK.out _ _ ?_ (fun hS => ?_)
    · exact ⟨heap_past HBU.out, heap_past HUb.out⟩
    clear hK K
    try simp only [Act.put, List.getElem_toArray, List.getElem_cons_zero, List.getElem_cons_succ, List.setIfInBounds_toArray, List.set_cons_zero, List.set_cons_succ]
    have ho11 : ops64[11]? = some (opAt ops64 11) := by kernel_rfl
    conv at ho11 => rhs; arg 1; whnf
    refine wpAnyH_ready (rs := [11]) (by kernel_rfl) (by simp) ?_
    refine (AllReadyH.cons ho11 (fun K hK => ?_) AllReadyH.nil)
    all_goals clear ho11
    refine step_append_el (T := laT) rfl (.tmp 336) (.tmp 338) 48 rfl S 56 iA _ 56 Tryd.underlying48 hiA hA0 hA1 hA2 rfl (by exact (by decide : 0 < 9)) _ k alts (by rfl) (Hown.out.drew.alloc _) U.heap.size _ _ (⟨⟨⟨(i : Int), (k : Int), 0, 0, 0, 0, 0⟩, [], []⟩, .slice none 0 0, .slice none 0 0⟩ : LA) (by rfl) (heap_at _ rfl) (by exact ⟨rfl, Hpok.out⟩) (by simp [Value.oneCell']) (by unfold maxLen; omega) (by omega) (by simp; omega) ?_
    intro g9 cap9 w9 hown9 hg9 hb9 hat9 hlt9
    have hI9 := heap_grown hg9 (heap_past HIU.out) (fun e => HneI.out e.symm)
    have cI9 : w9.cell? ⟨gI, i, none⟩ = some (.slice Ay k cy) := (cell_of_row _ _ _ _ _ _ hI9).trans ((cell_of_row _ _ _ _ _ _ HIU.out).symm.trans cIU)
    have fI9 := frozen_heap hI9 (o := i)
    have lI9 : gI < w9.heap.size := heap_lt hI9
    have hB9 := heap_grown hg9 (heap_past HBU.out) (fun e => HneB.out e.symm)
    have hN9 := heap_grown hg9 (heap_past HUb.out) (fun e => HneN.out e.symm)
    refine hK.out _ _ ?_ (fun hS => ?_)
    · exact ⟨hB9, hN9⟩
    clear hK K
    try simp only [Act.put, List.getElem_toArray, List.getElem_cons_zero, List.getElem_cons_succ, List.setIfInBounds_toArray, List.set_cons_zero, List.set_cons_succ]
    have ho : ops64[12]? = some (opAt ops64 12) := by kernel_rfl
    conv at ho => rhs; arg 1; whnf
    refine wpAnyH_take (i := 12) (v := ?_) ho (by kernel_rfl) (by kernel_rfl) (by kernel_rfl) (fun _ _ _ h => h) (Or.inl ⟨by kernel_rfl, ?_⟩) hS ?_
    clear ho
    rotate_left
    · intro w' hS'
      have hq := hS'.1
      have hq2 := hS'.2
      clear hS'
      have e7 : w'.cell? ⟨BB, 7, none⟩ = some (.slice (some ⟨gI, 0, none⟩) n1 cI) := cell_heap hq (o := 7) rfl
      have e0c : w'.cell? ⟨NB, 0, none⟩ = some (.int .u8 (i : Int)) := cell_heap hq2 (o := 0) rfl; have e1c : w'.cell? ⟨NB, 1, none⟩ = some (.int .u8 (k : Int)) := cell_heap hq2 (o := 1) rfl; have e2c : w'.cell? ⟨NB, 2, none⟩ = some (.int .u8 0) := cell_heap hq2 (o := 2) rfl; have e3c : w'.cell? ⟨NB, 3, none⟩ = some (.int .u8 0) := cell_heap hq2 (o := 3) rfl; have e4c : w'.cell? ⟨NB, 4, none⟩ = some (.int .u8 0) := cell_heap hq2 (o := 4) rfl; have e5c : w'.cell? ⟨NB, 5, none⟩ = some (.int .u8 0) := cell_heap hq2 (o := 5) rfl; have e6c : w'.cell? ⟨NB, 6, none⟩ = some (.int .u8 0) := cell_heap hq2 (o := 6) rfl; have e7c : w'.cell? ⟨NB, 7, none⟩ = some (.slice none 0 0) := cell_heap hq2 (o := 7) rfl; have e8c : w'.cell? ⟨NB, 8, none⟩ = some (.slice none 0 0) := cell_heap hq2 (o := 8) rfl
      clear hq hq2
      first | (go_simp; done) | (go_simp; with_reducible rfl)
    try clear ho
    try simp only [Act.put, List.getElem_toArray, List.getElem_cons_zero, List.getElem_cons_succ, List.setIfInBounds_toArray, List.set_cons_zero, List.set_cons_succ]
    have ho : ops64[13]? = some (opAt ops64 13) := by kernel_rfl
    conv at ho => rhs; arg 1; whnf
    refine wpAnyH_take (i := 13) (v := ?_) ho (by kernel_rfl) (by kernel_rfl) (by kernel_rfl) (fun _ _ _ h => h) (Or.inl ⟨by kernel_rfl, ?_⟩) hS ?_
    clear ho
    rotate_left
    · intro w' hS'
      have hq := hS'.1
      have hq2 := hS'.2
      clear hS'
      have e7 : w'.cell? ⟨BB, 7, none⟩ = some (.slice (some ⟨gI, 0, none⟩) n1 cI) := cell_heap hq (o := 7) rfl
      have e0c : w'.cell? ⟨NB, 0, none⟩ = some (.int .u8 (i : Int)) := cell_heap hq2 (o := 0) rfl; have e1c : w'.cell? ⟨NB, 1, none⟩ = some (.int .u8 (k : Int)) := cell_heap hq2 (o := 1) rfl; have e2c : w'.cell? ⟨NB, 2, none⟩ = some (.int .u8 0) := cell_heap hq2 (o := 2) rfl; have e3c : w'.cell? ⟨NB, 3, none⟩ = some (.int .u8 0) := cell_heap hq2 (o := 3) rfl; have e4c : w'.cell? ⟨NB, 4, none⟩ = some (.int .u8 0) := cell_heap hq2 (o := 4) rfl; have e5c : w'.cell? ⟨NB, 5, none⟩ = some (.int .u8 0) := cell_heap hq2 (o := 5) rfl; have e6c : w'.cell? ⟨NB, 6, none⟩ = some (.int .u8 0) := cell_heap hq2 (o := 6) rfl; have e7c : w'.cell? ⟨NB, 7, none⟩ = some (.slice none 0 0) := cell_heap hq2 (o := 7) rfl; have e8c : w'.cell? ⟨NB, 8, none⟩ = some (.slice none 0 0) := cell_heap hq2 (o := 8) rfl
      clear hq hq2
      first | (go_simp; done) | (go_simp; with_reducible rfl)
    try clear ho
    try simp only [Act.put, List.getElem_toArray, List.getElem_cons_zero, List.getElem_cons_succ, List.setIfInBounds_toArray, List.set_cons_zero, List.set_cons_succ]
    have ho14 : ops64[14]? = some (opAt ops64 14) := by kernel_rfl
    conv at ho14 => rhs; arg 1; whnf
    refine wpAnyH_ready (rs := [14]) (by kernel_rfl) (by simp) ?_
    refine (AllReadyH.cons ho14 (fun K hK => ?_) AllReadyH.nil)
    all_goals clear ho14
    go_simp
    refine hK.out _ _ ?_ (fun hS => ?_)
    · exact ⟨heap_other hB9 (fun e => HgB.out e), heap_other hN9 (fun e => HgN.out e)⟩
    clear hK K
    try simp only [Act.put, List.getElem_toArray, List.getElem_cons_zero, List.getElem_cons_succ, List.setIfInBounds_toArray, List.set_cons_zero, List.set_cons_succ]
    refine wpAnyH_done (by kernel_rfl) ?_ _
    refine NoPanic.normal ?_
    exact HQ.out _ _ _ _ _ _ _ _ _ _ _ _ _ _ _ _ _ hown9 hg9 (hat9.elim (fun h => .inl h.symm) (fun h => .inr ⟨g9, rfl, (by first | omega | exact Nat.le_of_eq h.symm)⟩))
end Go.Proofs.YtjgncofhobhjdaaDoor
