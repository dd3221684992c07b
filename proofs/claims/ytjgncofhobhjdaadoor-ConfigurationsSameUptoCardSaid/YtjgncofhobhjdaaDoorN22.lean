/- The law reader, its tests. -/
import Derived.Test.YtjgncofhobhjdaaDoorChecked
import Derived.Deep.RegionHeld3
import Derived.Deep.DrawnRows
import Derived.Deep.DeepCutAuto
import Derived.Deep.LoopGhost
import Derived.Outline
import Derived.Handy
import Derived.OwnWalk
import Derived.BigQuiet
import Derived.Deep.CutBlock
import Derived.Test.YtjgncofhobhjdaaDoorN4
import Derived.Test.YtjgncofhobhjdaaDoorN3
import Derived.Test.YtjgncofhobhjdaaDoorN21
set_option linter.unusedVariables false
set_option linter.unusedSimpArgs false
set_option linter.unusedSectionVars false
/- accepted: tests on bytes. Printed by gen_aa.py. -/
namespace Go.Proofs.YtjgncofhobhjdaaDoor
open Go.RowKit
attribute [local go_sem ↓] Go.wp_at_zero Go.wp_at_succ

set_option maxRecDepth 1000000 in
set_option maxHeartbeats 16000000 in
theorem acc_r7 {u1 u2 u3 u4 u5 u7 u8 u9 u10 u11 u12 u13 u14 u15 u16 u17 u18 u19 u20 u21 u22 u23 u24 u25 u26 u27 u28 u29 u30 u31 u32 u33 u34 u35 u36 u37 u38 u39 u40 u41 u42 u43 u44 u45 u46 u47 u48 u49 u50 u51 u52 u53 u54 u55 u56 u57 u58 u59 u60 u61 u62 u63 u64 u65 u66 u67 u68 u69 u70 u71 u72 u73 u74 u75 u76 u77 u78 u79 u80 u81 u82 u83 u84 u85 u86 u87 u88 u89 u90 u91 u92 u93 u94 u95 u96 u97 u98 u99 u100 u101 u102 u103 u104 u105 u106 u107 u108 u109 u110 u111 u112 u113 u114 u115 u116 u117 u118 u119 u120 u121 u122 u123 u124 u125 u126 u127 u128 u129 u130 u131 u132 u133 u134 u135 u136 u137 u138 u139 u140 u141 u142 u143 u144 u145 u146 u147 u148 u149 u150 u151 u152 u153 u154 u155 u156 u157 u158 u159 u160 u161 u162 u163 u164 u165 u166 u167 u168 u169 u170 u171 u172 u173 u174 u175 u176 u177 u178 u179 u180 u181 u182 u183 u184 u185 u186 u187 u188 u189 u190 u191 u192 u193 u194 u195 u196 u197 u198 u199 u200 u201 u202 u203 u204 u205 u206 u207 u208 u209 u210 u211 u212 u213 u214 u215 u216 u217 u218 u219 u220 u221 u222 u223 u224 u225 u226 u227 u228 u229 u230 u231 u232 u233 u234 u235 u236 u237 u238 u239 u240 u241 u242 u243 u244 u245 u246 u247 u248 u249 u250 u251 u252 u253 u254 u255 u256 u257 u258 u259 u260 u261 u262 u263 u264 u265 u266 u267 u268 u269 u270 u271 u272 u273 u274 u275 u276 u277 u278 u279 u280 u281 u282 u283 u284 u285 u286 u287 u288 u289 u290 u291 u292 u293 u294 u295 u296 u297 u298 u299 u300 u301 u302 u303 u304 u305 u306 u307 u308 u309 u310 u311 u312 u313 u314 u315 u316 u317 u318 u319 u320 u321 u322 u323 u324 u325 u326 u327 u328 u329 u330 u331 u332 u333 u334 u335 u336 u337 u338 u339 u340 u341 u342 u343 u344 u345 u346 u347 u348 u349 u350 u351 u352 u353 : Value} {b off n c at0 : Nat} {wr : World} (hnc : n ≤ c) (hcm : c ≤ maxLen) (hat : at0 ≤ n) {z0 z1 z4 : Int} (hb : at0 + 9 ≤ n → b < wr.heap.size) (x0' : at0 + 9 ≤ n → wr.cell? ⟨b, off + at0, none⟩ = some (.int .u8 z0)) (x1' : at0 + 9 ≤ n → wr.cell? ⟨b, off + (at0 + 1), none⟩ = some (.int .u8 z1)) (x4' : at0 + 9 ≤ n → wr.cell? ⟨b, off + (at0 + 4), none⟩ = some (.int .u8 z4)) (k0 : u8k z0) (k1 : u8k z1) (k4 : u8k z4)
    (Q : Exit → Act → World → Prop) (hQ : ∀ (s85 s86 s87 s88 s89 s90 s91 s92 s93 s94 s95 s96 s97 s98 s99 s100 s101 s102 s103 s104 s105 s106 s107 s108 s109 s110 s111 : Value) (w' : World), Kept wr w' → Q .normal ⟨#[.slice (some ⟨b, off, none⟩) n c, u1, u2, u3, u4, u5, .int .i64 at0, u7, u8, u9, u10, u11, u12, u13, u14, u15, u16, u17, u18, u19, u20, u21, u22, u23, u24, u25, u26, u27, u28, u29, u30, u31, u32, u33, u34, u35, u36, u37, u38, u39, u40, u41, u42, u43, u44, u45, u46, u47, u48, u49, u50, u51, u52, u53, u54, u55, u56, u57, u58, u59, u60, u61, u62, u63, u64, u65, u66, u67, u68, u69, u70, u71, u72, u73, u74, u75, u76, u77, u78, u79, u80, u81, u82, u83, u84, s85, s86, s87, s88, s89, s90, s91, s92, s93, s94, s95, s96, s97, s98, s99, s100, s101, s102, s103, s104, s105, s106, s107, s108, s109, s110, s111, .bool (decide ((n : Int) - (at0 : Int) < 9) || decide (¬ z0 = 9) || decide (¬ z1 = 4) || decide (30 < z4)), u113, u114, u115, u116, u117, u118, u119, u120, u121, u122, u123, u124, u125, u126, u127, u128, u129, u130, u131, u132, u133, u134, u135, u136, u137, u138, u139, u140, u141, u142, u143, u144, u145, u146, u147, u148, u149, u150, u151, u152, u153, u154, u155, u156, u157, u158, u159, u160, u161, u162, u163, u164, u165, u166, u167, u168, u169, u170, u171, u172, u173, u174, u175, u176, u177, u178, u179, u180, u181, u182, u183, u184, u185, u186, u187, u188, u189, u190, u191, u192, u193, u194, u195, u196, u197, u198, u199, u200, u201, u202, u203, u204, u205, u206, u207, u208, u209, u210, u211, u212, u213, u214, u215, u216, u217, u218, u219, u220, u221, u222, u223, u224, u225, u226, u227, u228, u229, u230, u231, u232, u233, u234, u235, u236, u237, u238, u239, u240, u241, u242, u243, u244, u245, u246, u247, u248, u249, u250, u251, u252, u253, u254, u255, u256, u257, u258, u259, u260, u261, u262, u263, u264, u265, u266, u267, u268, u269, u270, u271, u272, u273, u274, u275, u276, u277, u278, u279, u280, u281, u282, u283, u284, u285, u286, u287, u288, u289, u290, u291, u292, u293, u294, u295, u296, u297, u298, u299, u300, u301, u302, u303, u304, u305, u306, u307, u308, u309, u310, u311, u312, u313, u314, u315, u316, u317, u318, u319, u320, u321, u322, u323, u324, u325, u326, u327, u328, u329, u330, u331, u332, u333, u334, u335, u336, u337, u338, u339, u340, u341, u342, u343, u344, u345, u346, u347, u348, u349, u350, u351, u352, u353], []⟩ w') :
    Code.wp Tryd.prog (headC code7a) Q ⟨#[.slice (some ⟨b, off, none⟩) n c, u1, u2, u3, u4, u5, .int .i64 at0, u7, u8, u9, u10, u11, u12, u13, u14, u15, u16, u17, u18, u19, u20, u21, u22, u23, u24, u25, u26, u27, u28, u29, u30, u31, u32, u33, u34, u35, u36, u37, u38, u39, u40, u41, u42, u43, u44, u45, u46, u47, u48, u49, u50, u51, u52, u53, u54, u55, u56, u57, u58, u59, u60, u61, u62, u63, u64, u65, u66, u67, u68, u69, u70, u71, u72, u73, u74, u75, u76, u77, u78, u79, u80, u81, u82, u83, u84, u85, u86, u87, u88, u89, u90, u91, u92, u93, u94, u95, u96, u97, u98, u99, u100, u101, u102, u103, u104, u105, u106, u107, u108, u109, u110, u111, u112, u113, u114, u115, u116, u117, u118, u119, u120, u121, u122, u123, u124, u125, u126, u127, u128, u129, u130, u131, u132, u133, u134, u135, u136, u137, u138, u139, u140, u141, u142, u143, u144, u145, u146, u147, u148, u149, u150, u151, u152, u153, u154, u155, u156, u157, u158, u159, u160, u161, u162, u163, u164, u165, u166, u167, u168, u169, u170, u171, u172, u173, u174, u175, u176, u177, u178, u179, u180, u181, u182, u183, u184, u185, u186, u187, u188, u189, u190, u191, u192, u193, u194, u195, u196, u197, u198, u199, u200, u201, u202, u203, u204, u205, u206, u207, u208, u209, u210, u211, u212, u213, u214, u215, u216, u217, u218, u219, u220, u221, u222, u223, u224, u225, u226, u227, u228, u229, u230, u231, u232, u233, u234, u235, u236, u237, u238, u239, u240, u241, u242, u243, u244, u245, u246, u247, u248, u249, u250, u251, u252, u253, u254, u255, u256, u257, u258, u259, u260, u261, u262, u263, u264, u265, u266, u267, u268, u269, u270, u271, u272, u273, u274, u275, u276, u277, u278, u279, u280, u281, u282, u283, u284, u285, u286, u287, u288, u289, u290, u291, u292, u293, u294, u295, u296, u297, u298, u299, u300, u301, u302, u303, u304, u305, u306, u307, u308, u309, u310, u311, u312, u313, u314, u315, u316, u317, u318, u319, u320, u321, u322, u323, u324, u325, u326, u327, u328, u329, u330, u331, u332, u333, u334, u335, u336, u337, u338, u339, u340, u341, u342, u343, u344, u345, u346, u347, u348, u349, u350, u351, u352, u353], []⟩ wr := by
  obtain ⟨B, hB⟩ : ∃ B, (decide ((n : Int) - (at0 : Int) < 9) || decide (¬ z0 = 9) || decide (¬ z1 = 4) || decide (30 < z4)) = B := ⟨_, rfl⟩
  rw [hB] at hQ
  have HQ := hide hQ
  have HB := hide hB
  clear hQ hB
  unfold maxLen at hcm
  obtain ⟨k00, k01⟩ := k0
  obtain ⟨k10, k11⟩ := k1
  obtain ⟨k40, k41⟩ := k4
  have hws : IntKind.i64.wrap ((n : Int) - (at0 : Int)) = (n : Int) - (at0 : Int) := by rw [IntKind.wrap_i64]; omega
  conv => arg 2; whnf
  by_cases hlt : (n : Int) - (at0 : Int) < 9
  case pos =>
    have hB : B = true := by rw [← HB.out]; first | (simp only [hlt, decide_true, decide_false, not_true_eq_false, not_false_eq_true, ne_eq, Bool.or_false, Bool.false_or, Bool.or_true, Bool.true_or, Bool.and_true, Bool.true_and, Bool.and_false, Bool.false_and]; done) | (simp [hlt]; done)
    subst hB
    go_wp2_with fail
    exact HQ.out _ _ _ _ _ _ _ _ _ _ _ _ _ _ _ _ _ _ _ _ _ _ _ _ _ _ _ _ (by first | exact Below.refl _ _ | exact below_drewN (Below.refl _ _) _ | go_grown)
  case neg =>
  have hlt2 : 9 ≤ (n : Int) - (at0 : Int) := by omega
  have hlt3 : at0 + 9 ≤ n := by omega
  have x0 := x0' hlt3
  have x1 := x1' hlt3
  have x4 := x4' hlt3
  have hbl := hb hlt3
  clear x0' x1' x4'
  have hi0 : (0 : Int) ≤ (at0 : Int) := by omega
  have hj0 : (at0 : Int) < (n : Int) := by omega
  have hw1 : IntKind.i64.wrap ((at0 : Int) + 1) = ((at0 + 1 : Nat) : Int) := by rw [IntKind.wrap_i64]; omega
  have hi1 : (0 : Int) ≤ ((at0 + 1 : Nat) : Int) := by omega
  have hj1 : ((at0 + 1 : Nat) : Int) < (n : Int) := by omega
  have hk1 : (0 : Int) ≤ (at0 : Int) + 1 := by omega
  have hl1 : (at0 : Int) + 1 < (n : Int) := by omega
  have hm1 : ((at0 : Int) + 1).toNat = at0 + 1 := by omega
  have hw4 : IntKind.i64.wrap ((at0 : Int) + 4) = ((at0 + 4 : Nat) : Int) := by rw [IntKind.wrap_i64]; omega
  have hi4 : (0 : Int) ≤ ((at0 + 4 : Nat) : Int) := by omega
  have hj4 : ((at0 + 4 : Nat) : Int) < (n : Int) := by omega
  have hk4 : (0 : Int) ≤ (at0 : Int) + 4 := by omega
  have hl4 : (at0 : Int) + 4 < (n : Int) := by omega
  have hm4 : ((at0 : Int) + 4).toNat = at0 + 4 := by omega
  by_cases h0 : ¬ z0 = 9
  case pos =>
    have h0e : (z0 == 9) = false := by simpa using h0
    have h0b : (z0 != 9) = true := by simpa using h0
    have hB : B = true := by rw [← HB.out]; first | (simp only [hlt, h0, decide_true, decide_false, not_true_eq_false, not_false_eq_true, ne_eq, Bool.or_false, Bool.false_or, Bool.or_true, Bool.true_or, Bool.and_true, Bool.true_and, Bool.and_false, Bool.false_and]; done) | (simp [hlt, h0]; done)
    subst hB
    try clear h0f
    try clear h0
    go_wp2_with fail
    exact HQ.out _ _ _ _ _ _ _ _ _ _ _ _ _ _ _ _ _ _ _ _ _ _ _ _ _ _ _ _ (by first | exact Below.refl _ _ | exact below_drewN (Below.refl _ _) _ | go_grown)
  case neg =>
  have h0f : z0 = 9 := by omega
  have h0e : (z0 == 9) = true := by simpa using h0f
  have h0b : (z0 != 9) = false := by simpa using h0f
  by_cases h1 : ¬ z1 = 4
  case pos =>
    have h1e : (z1 == 4) = false := by simpa using h1
    have h1b : (z1 != 4) = true := by simpa using h1
    have hB : B = true := by rw [← HB.out]; first | (simp only [hlt, h0, h1, decide_true, decide_false, not_true_eq_false, not_false_eq_true, ne_eq, Bool.or_false, Bool.false_or, Bool.or_true, Bool.true_or, Bool.and_true, Bool.true_and, Bool.and_false, Bool.false_and]; done) | (simp [hlt, h0, h1]; done)
    subst hB
    try clear h0f
    try clear h1f
    try clear h0
    try clear h1
    go_wp2_with fail
    exact HQ.out _ _ _ _ _ _ _ _ _ _ _ _ _ _ _ _ _ _ _ _ _ _ _ _ _ _ _ _ (by first | exact Below.refl _ _ | exact below_drewN (Below.refl _ _) _ | go_grown)
  case neg =>
  have h1f : z1 = 4 := by omega
  have h1e : (z1 == 4) = true := by simpa using h1f
  have h1b : (z1 != 4) = false := by simpa using h1f
  by_cases h4 : 30 < z4
  case pos =>
    have hB : B = true := by rw [← HB.out]; first | (simp only [hlt, h0, h1, h4, decide_true, decide_false, not_true_eq_false, not_false_eq_true, ne_eq, Bool.or_false, Bool.false_or, Bool.or_true, Bool.true_or, Bool.and_true, Bool.true_and, Bool.and_false, Bool.false_and]; done) | (simp [hlt, h0, h1, h4]; done)
    subst hB
    try clear h0f
    try clear h1f
    try clear h0
    try clear h1
    go_wp2_with fail
    exact HQ.out _ _ _ _ _ _ _ _ _ _ _ _ _ _ _ _ _ _ _ _ _ _ _ _ _ _ _ _ (by first | exact Below.refl _ _ | exact below_drewN (Below.refl _ _) _ | go_grown)
  case neg =>
  have h4f : z4 ≤ 30 := by omega
  have hB : B = false := by rw [← HB.out]; first | (simp only [hlt, h0, h1, h4, decide_true, decide_false, not_true_eq_false, not_false_eq_true, ne_eq, Bool.or_false, Bool.false_or, Bool.or_true, Bool.true_or, Bool.and_true, Bool.true_and, Bool.and_false, Bool.false_and]; done) | (simp [hlt, h0, h1, h4]; done)
  subst hB
  try clear h0f
  try clear h1f
  try clear h0
  try clear h1
  go_wp2_with fail
  exact HQ.out _ _ _ _ _ _ _ _ _ _ _ _ _ _ _ _ _ _ _ _ _ _ _ _ _ _ _ _ (by first | exact Below.refl _ _ | exact below_drewN (Below.refl _ _) _ | go_grown)
set_option maxRecDepth 1000000 in
set_option maxHeartbeats 16000000 in
theorem acc_r12 {u1 u2 u3 u7 u8 u9 u10 u11 u12 u13 u14 u15 u16 u17 u18 u19 u20 u21 u22 u23 u24 u25 u26 u27 u28 u29 u30 u31 u32 u33 u34 u35 u36 u37 u38 u39 u40 u41 u42 u43 u44 u45 u46 u47 u48 u49 u50 u51 u52 u53 u54 u55 u56 u57 u58 u59 u60 u61 u62 u63 u64 u65 u66 u67 u68 u69 u70 u71 u72 u73 u74 u75 u76 u77 u78 u79 u80 u81 u82 u83 u84 u85 u86 u87 u88 u89 u90 u91 u92 u93 u94 u95 u96 u97 u98 u99 u100 u101 u102 u103 u104 u105 u106 u107 u108 u109 u110 u111 u112 u113 u114 u115 u116 u117 u118 u119 u120 u121 u122 u123 u124 u125 u126 u127 u128 u129 u130 u131 u132 u133 u134 u135 u136 u137 u138 u139 u140 u141 u142 u143 u144 u145 u146 u147 u148 u149 u150 u151 u152 u153 u154 u155 u156 u157 u158 u159 u160 u161 u162 u163 u164 u165 u166 u167 u168 u169 u170 u171 u172 u173 u174 u175 u176 u177 u178 u179 u180 u181 u182 u183 u184 u185 u186 u187 u188 u189 u190 u191 u192 u193 u194 u195 u196 u197 u198 u199 u200 u201 u202 u203 u204 u205 u206 u207 u208 u209 u210 u211 u212 u213 u214 u215 u216 u217 u218 u219 u220 u221 u222 u223 u224 u225 u226 u227 u228 u229 u230 u231 u232 u233 u234 u235 u236 u237 u238 u239 u240 u241 u242 u243 u244 u245 u246 u247 u248 u249 u250 u251 u252 u253 u254 u255 u256 u257 u258 u259 u260 u261 u262 u263 u264 u265 u266 u267 u268 u269 u270 u271 u272 u273 u274 u275 u276 u277 u278 u279 u280 u281 u282 u283 u284 u285 u286 u287 u288 u289 u290 u291 u292 u293 u294 u295 u296 u297 u298 u299 u300 u301 u302 u303 u304 u305 u306 u307 u308 u309 u310 u311 u312 u313 u314 u315 u316 u317 u318 u319 u320 u321 u322 u323 u324 u325 u326 u327 u328 u329 u330 u331 u332 u333 u334 u335 u336 u337 u338 u339 u340 u341 u342 u343 u344 u345 u346 u347 u348 u349 u350 u351 u352 u353 : Value} {b off n c at0 : Nat} {wr : World} (hnc : n ≤ c) (hcm : c ≤ maxLen) (hat : at0 ≤ n) {z2 z3 : Int} {ifc set : Nat} (hif : ifc ≤ 100000) (hset : set ≤ 100000) (hlt3 : at0 + 9 ≤ n) (hb : at0 + 9 ≤ n → b < wr.heap.size) (x2' : at0 + 9 ≤ n → wr.cell? ⟨b, off + (at0 + 2), none⟩ = some (.int .u8 z2)) (x3' : at0 + 9 ≤ n → wr.cell? ⟨b, off + (at0 + 3), none⟩ = some (.int .u8 z3)) (k2 : u8k z2) (k3 : u8k z3)
    (Q : Exit → Act → World → Prop) (hQ : ∀ (s121 s122 s123 s124 s125 s126 s127 s128 s129 s130 s131 s132 s133 s134 s135 s136 s137 s138 s139 s140 s141 s142 s143 s144 s145 s146 : Value) (w' : World), Kept wr w' → Q .normal ⟨#[.slice (some ⟨b, off, none⟩) n c, u1, u2, u3, .int .i64 ifc, .int .i64 set, .int .i64 at0, u7, u8, u9, u10, u11, u12, u13, u14, u15, u16, u17, u18, u19, u20, u21, u22, u23, u24, u25, u26, u27, u28, u29, u30, u31, u32, u33, u34, u35, u36, u37, u38, u39, u40, u41, u42, u43, u44, u45, u46, u47, u48, u49, u50, u51, u52, u53, u54, u55, u56, u57, u58, u59, u60, u61, u62, u63, u64, u65, u66, u67, u68, u69, u70, u71, u72, u73, u74, u75, u76, u77, u78, u79, u80, u81, u82, u83, u84, u85, u86, u87, u88, u89, u90, u91, u92, u93, u94, u95, u96, u97, u98, u99, u100, u101, u102, u103, u104, u105, u106, u107, u108, u109, u110, u111, u112, u113, u114, u115, u116, u117, u118, u119, u120, s121, s122, s123, s124, s125, s126, s127, s128, s129, s130, s131, s132, s133, s134, s135, s136, s137, s138, s139, s140, s141, s142, s143, s144, s145, s146, .bool (decide ((ifc : Int) = 0) || decide (¬ z2 = (ifc : Int) - 1) || decide (¬ z3 = (set : Int)) || decide (15 < (set : Int))), u148, u149, u150, u151, u152, u153, u154, u155, u156, u157, u158, u159, u160, u161, u162, u163, u164, u165, u166, u167, u168, u169, u170, u171, u172, u173, u174, u175, u176, u177, u178, u179, u180, u181, u182, u183, u184, u185, u186, u187, u188, u189, u190, u191, u192, u193, u194, u195, u196, u197, u198, u199, u200, u201, u202, u203, u204, u205, u206, u207, u208, u209, u210, u211, u212, u213, u214, u215, u216, u217, u218, u219, u220, u221, u222, u223, u224, u225, u226, u227, u228, u229, u230, u231, u232, u233, u234, u235, u236, u237, u238, u239, u240, u241, u242, u243, u244, u245, u246, u247, u248, u249, u250, u251, u252, u253, u254, u255, u256, u257, u258, u259, u260, u261, u262, u263, u264, u265, u266, u267, u268, u269, u270, u271, u272, u273, u274, u275, u276, u277, u278, u279, u280, u281, u282, u283, u284, u285, u286, u287, u288, u289, u290, u291, u292, u293, u294, u295, u296, u297, u298, u299, u300, u301, u302, u303, u304, u305, u306, u307, u308, u309, u310, u311, u312, u313, u314, u315, u316, u317, u318, u319, u320, u321, u322, u323, u324, u325, u326, u327, u328, u329, u330, u331, u332, u333, u334, u335, u336, u337, u338, u339, u340, u341, u342, u343, u344, u345, u346, u347, u348, u349, u350, u351, u352, u353], []⟩ w') :
    Code.wp Tryd.prog (headC code12a) Q ⟨#[.slice (some ⟨b, off, none⟩) n c, u1, u2, u3, .int .i64 ifc, .int .i64 set, .int .i64 at0, u7, u8, u9, u10, u11, u12, u13, u14, u15, u16, u17, u18, u19, u20, u21, u22, u23, u24, u25, u26, u27, u28, u29, u30, u31, u32, u33, u34, u35, u36, u37, u38, u39, u40, u41, u42, u43, u44, u45, u46, u47, u48, u49, u50, u51, u52, u53, u54, u55, u56, u57, u58, u59, u60, u61, u62, u63, u64, u65, u66, u67, u68, u69, u70, u71, u72, u73, u74, u75, u76, u77, u78, u79, u80, u81, u82, u83, u84, u85, u86, u87, u88, u89, u90, u91, u92, u93, u94, u95, u96, u97, u98, u99, u100, u101, u102, u103, u104, u105, u106, u107, u108, u109, u110, u111, u112, u113, u114, u115, u116, u117, u118, u119, u120, u121, u122, u123, u124, u125, u126, u127, u128, u129, u130, u131, u132, u133, u134, u135, u136, u137, u138, u139, u140, u141, u142, u143, u144, u145, u146, u147, u148, u149, u150, u151, u152, u153, u154, u155, u156, u157, u158, u159, u160, u161, u162, u163, u164, u165, u166, u167, u168, u169, u170, u171, u172, u173, u174, u175, u176, u177, u178, u179, u180, u181, u182, u183, u184, u185, u186, u187, u188, u189, u190, u191, u192, u193, u194, u195, u196, u197, u198, u199, u200, u201, u202, u203, u204, u205, u206, u207, u208, u209, u210, u211, u212, u213, u214, u215, u216, u217, u218, u219, u220, u221, u222, u223, u224, u225, u226, u227, u228, u229, u230, u231, u232, u233, u234, u235, u236, u237, u238, u239, u240, u241, u242, u243, u244, u245, u246, u247, u248, u249, u250, u251, u252, u253, u254, u255, u256, u257, u258, u259, u260, u261, u262, u263, u264, u265, u266, u267, u268, u269, u270, u271, u272, u273, u274, u275, u276, u277, u278, u279, u280, u281, u282, u283, u284, u285, u286, u287, u288, u289, u290, u291, u292, u293, u294, u295, u296, u297, u298, u299, u300, u301, u302, u303, u304, u305, u306, u307, u308, u309, u310, u311, u312, u313, u314, u315, u316, u317, u318, u319, u320, u321, u322, u323, u324, u325, u326, u327, u328, u329, u330, u331, u332, u333, u334, u335, u336, u337, u338, u339, u340, u341, u342, u343, u344, u345, u346, u347, u348, u349, u350, u351, u352, u353], []⟩ wr := by
  obtain ⟨B, hB⟩ : ∃ B, (decide ((ifc : Int) = 0) || decide (¬ z2 = (ifc : Int) - 1) || decide (¬ z3 = (set : Int)) || decide (15 < (set : Int))) = B := ⟨_, rfl⟩
  rw [hB] at hQ
  have HQ := hide hQ
  have HB := hide hB
  clear hQ hB
  unfold maxLen at hcm
  obtain ⟨k20, k21⟩ := k2
  obtain ⟨k30, k31⟩ := k3
  have x2 := x2' hlt3
  have x3 := x3' hlt3
  have hbl := hb hlt3
  clear x2' x3'
  have hw2 : IntKind.i64.wrap ((at0 : Int) + 2) = ((at0 + 2 : Nat) : Int) := by rw [IntKind.wrap_i64]; omega
  have hi2 : (0 : Int) ≤ ((at0 + 2 : Nat) : Int) := by omega
  have hj2 : ((at0 + 2 : Nat) : Int) < (n : Int) := by omega
  have hk2 : (0 : Int) ≤ (at0 : Int) + 2 := by omega
  have hl2 : (at0 : Int) + 2 < (n : Int) := by omega
  have hm2 : ((at0 : Int) + 2).toNat = at0 + 2 := by omega
  have hw3 : IntKind.i64.wrap ((at0 : Int) + 3) = ((at0 + 3 : Nat) : Int) := by rw [IntKind.wrap_i64]; omega
  have hi3 : (0 : Int) ≤ ((at0 + 3 : Nat) : Int) := by omega
  have hj3 : ((at0 + 3 : Nat) : Int) < (n : Int) := by omega
  have hk3 : (0 : Int) ≤ (at0 : Int) + 3 := by omega
  have hl3 : (at0 : Int) + 3 < (n : Int) := by omega
  have hm3 : ((at0 : Int) + 3).toNat = at0 + 3 := by omega
  have hv2 : IntKind.i64.wrap z2 = z2 := by rw [IntKind.wrap_i64]; omega
  have hv3 : IntKind.i64.wrap z3 = z3 := by rw [IntKind.wrap_i64]; omega
  have hvi : IntKind.i64.wrap ((ifc : Int) - 1) = (ifc : Int) - 1 := by rw [IntKind.wrap_i64]; omega
  conv => arg 2; whnf
  by_cases h0 : (ifc : Int) = 0
  case pos =>
    have h0e : ((ifc : Int) == 0) = true := by simpa using h0
    have hB : B = true := by rw [← HB.out]; first | (simp only [h0, decide_true, decide_false, not_true_eq_false, not_false_eq_true, ne_eq, Bool.or_false, Bool.false_or, Bool.or_true, Bool.true_or, Bool.and_true, Bool.true_and, Bool.and_false, Bool.false_and]; done) | (simp [h0]; done)
    subst hB
    try clear h0f
    try clear h0
    go_wp2_with fail
    exact HQ.out _ _ _ _ _ _ _ _ _ _ _ _ _ _ _ _ _ _ _ _ _ _ _ _ _ _ _ (by first | exact Below.refl _ _ | exact below_drewN (Below.refl _ _) _ | go_grown)
  case neg =>
  have h0e : ((ifc : Int) == 0) = false := by simpa using h0
  by_cases h2 : ¬ z2 = (ifc : Int) - 1
  case pos =>
    have h2e : (z2 == (ifc : Int) - 1) = false := by simpa using h2
    have h2b : (z2 != (ifc : Int) - 1) = true := by simpa using h2
    have hB : B = true := by rw [← HB.out]; first | (simp only [h0, h2, decide_true, decide_false, not_true_eq_false, not_false_eq_true, ne_eq, Bool.or_false, Bool.false_or, Bool.or_true, Bool.true_or, Bool.and_true, Bool.true_and, Bool.and_false, Bool.false_and]; done) | (simp [h0, h2]; done)
    subst hB
    try clear h0f
    try clear h2f
    try clear h0
    try clear h2
    go_wp2_with fail
    exact HQ.out _ _ _ _ _ _ _ _ _ _ _ _ _ _ _ _ _ _ _ _ _ _ _ _ _ _ _ (by first | exact Below.refl _ _ | exact below_drewN (Below.refl _ _) _ | go_grown)
  case neg =>
  have h2f : z2 = (ifc : Int) - 1 := by omega
  have h2e : (z2 == (ifc : Int) - 1) = true := by simpa using h2f
  have h2b : (z2 != (ifc : Int) - 1) = false := by simpa using h2f
  by_cases h3 : ¬ z3 = (set : Int)
  case pos =>
    have h3e : (z3 == (set : Int)) = false := by simpa using h3
    have h3b : (z3 != (set : Int)) = true := by simpa using h3
    have hB : B = true := by rw [← HB.out]; first | (simp only [h0, h2, h3, decide_true, decide_false, not_true_eq_false, not_false_eq_true, ne_eq, Bool.or_false, Bool.false_or, Bool.or_true, Bool.true_or, Bool.and_true, Bool.true_and, Bool.and_false, Bool.false_and]; done) | (simp [h0, h2, h3]; done)
    subst hB
    try clear h0f
    try clear h2f
    try clear h3f
    try clear h0
    try clear h2
    try clear h3
    go_wp2_with fail
    exact HQ.out _ _ _ _ _ _ _ _ _ _ _ _ _ _ _ _ _ _ _ _ _ _ _ _ _ _ _ (by first | exact Below.refl _ _ | exact below_drewN (Below.refl _ _) _ | go_grown)
  case neg =>
  have h3f : z3 = (set : Int) := by omega
  have h3e : (z3 == (set : Int)) = true := by simpa using h3f
  have h3b : (z3 != (set : Int)) = false := by simpa using h3f
  by_cases h5 : 15 < (set : Int)
  case pos =>
    have hB : B = true := by rw [← HB.out]; first | (simp only [h0, h2, h3, h5, decide_true, decide_false, not_true_eq_false, not_false_eq_true, ne_eq, Bool.or_false, Bool.false_or, Bool.or_true, Bool.true_or, Bool.and_true, Bool.true_and, Bool.and_false, Bool.false_and]; done) | (simp [h0, h2, h3, h5]; done)
    subst hB
    try clear h0f
    try clear h2f
    try clear h3f
    try clear h0
    try clear h2
    try clear h3
    go_wp2_with fail
    exact HQ.out _ _ _ _ _ _ _ _ _ _ _ _ _ _ _ _ _ _ _ _ _ _ _ _ _ _ _ (by first | exact Below.refl _ _ | exact below_drewN (Below.refl _ _) _ | go_grown)
  case neg =>
  have h5f : (set : Int) ≤ 15 := by omega
  have hB : B = false := by rw [← HB.out]; first | (simp only [h0, h2, h3, h5, decide_true, decide_false, not_true_eq_false, not_false_eq_true, ne_eq, Bool.or_false, Bool.false_or, Bool.or_true, Bool.true_or, Bool.and_true, Bool.true_and, Bool.and_false, Bool.false_and]; done) | (simp [h0, h2, h3, h5]; done)
  subst hB
  try clear h0f
  try clear h2f
  try clear h3f
  try clear h0
  try clear h2
  try clear h3
  go_wp2_with fail
  exact HQ.out _ _ _ _ _ _ _ _ _ _ _ _ _ _ _ _ _ _ _ _ _ _ _ _ _ _ _ (by first | exact Below.refl _ _ | exact below_drewN (Below.refl _ _) _ | go_grown)
set_option maxRecDepth 1000000 in
set_option maxHeartbeats 16000000 in
theorem acc_r23 {u1 u2 u3 u4 u5 u7 u8 u9 u10 u11 u12 u13 u14 u15 u16 u17 u18 u19 u20 u21 u22 u23 u24 u25 u26 u27 u28 u29 u30 u31 u32 u33 u34 u35 u36 u37 u38 u39 u40 u41 u42 u43 u44 u45 u46 u47 u48 u49 u50 u51 u52 u53 u54 u55 u56 u57 u58 u59 u60 u61 u62 u63 u64 u65 u66 u67 u68 u69 u70 u71 u72 u73 u74 u75 u76 u77 u78 u79 u80 u81 u82 u83 u84 u85 u86 u87 u88 u89 u90 u91 u92 u93 u94 u95 u96 u97 u98 u99 u100 u101 u102 u103 u104 u105 u106 u107 u108 u109 u110 u111 u112 u113 u114 u115 u116 u117 u118 u119 u120 u121 u122 u123 u124 u125 u126 u127 u128 u129 u130 u131 u132 u133 u134 u135 u136 u137 u138 u139 u140 u141 u142 u143 u144 u145 u146 u147 u148 u149 u150 u151 u152 u153 u154 u155 u156 u157 u158 u159 u160 u161 u162 u163 u164 u165 u166 u167 u168 u169 u170 u171 u172 u173 u174 u175 u176 u177 u178 u179 u180 u181 u182 u183 u184 u185 u186 u187 u188 u189 u190 u191 u192 u193 u194 u195 u196 u197 u198 u199 u200 u201 u202 u203 u204 u205 u206 u207 u208 u209 u210 u211 u212 u213 u214 u215 u216 u217 u218 u219 u220 u221 u222 u223 u224 u225 u226 u227 u228 u229 u230 u231 u232 u233 u234 u235 u236 u237 u238 u239 u240 u241 u242 u243 u244 u245 u246 u247 u248 u249 u250 u251 u252 u253 u254 u255 u256 u257 u258 u259 u260 u261 u262 u263 u264 u265 u266 u267 u268 u269 u270 u271 u272 u273 u274 u275 u276 u277 u278 u279 u280 u281 u282 u283 u284 u285 u286 u287 u288 u289 u290 u291 u292 u293 u294 u295 u296 u297 u298 u299 u300 u301 u302 u303 u304 u305 u306 u307 u308 u309 u310 u311 u312 u313 u314 u315 u316 u317 u318 u319 u320 u321 u322 u323 u324 u325 u326 u327 u328 u329 u330 u331 u332 u333 u334 u335 u336 u337 u338 u339 u340 u341 u342 u343 u344 u345 u346 u347 u348 u349 u350 u351 u352 u353 : Value} {b off n c at0 : Nat} {wr : World} (hnc : n ≤ c) (hcm : c ≤ maxLen) (hat : at0 ≤ n) {z0 z1 : Int} (hb : at0 + 7 ≤ n → b < wr.heap.size) (x0' : at0 + 7 ≤ n → wr.cell? ⟨b, off + at0, none⟩ = some (.int .u8 z0)) (x1' : at0 + 7 ≤ n → wr.cell? ⟨b, off + (at0 + 1), none⟩ = some (.int .u8 z1)) (k0 : u8k z0) (k1 : u8k z1)
    (Q : Exit → Act → World → Prop) (hQ : ∀ (s225 s226 s227 s228 s229 s230 s231 s232 s233 s234 s235 s236 s237 s238 s239 s240 s241 s242 s243 : Value) (w' : World), Kept wr w' → Q .normal ⟨#[.slice (some ⟨b, off, none⟩) n c, u1, u2, u3, u4, u5, .int .i64 at0, u7, u8, u9, u10, u11, u12, u13, u14, u15, u16, u17, u18, u19, u20, u21, u22, u23, u24, u25, u26, u27, u28, u29, u30, u31, u32, u33, u34, u35, u36, u37, u38, u39, u40, u41, u42, u43, u44, u45, u46, u47, u48, u49, u50, u51, u52, u53, u54, u55, u56, u57, u58, u59, u60, u61, u62, u63, u64, u65, u66, u67, u68, u69, u70, u71, u72, u73, u74, u75, u76, u77, u78, u79, u80, u81, u82, u83, u84, u85, u86, u87, u88, u89, u90, u91, u92, u93, u94, u95, u96, u97, u98, u99, u100, u101, u102, u103, u104, u105, u106, u107, u108, u109, u110, u111, u112, u113, u114, u115, u116, u117, u118, u119, u120, u121, u122, u123, u124, u125, u126, u127, u128, u129, u130, u131, u132, u133, u134, u135, u136, u137, u138, u139, u140, u141, u142, u143, u144, u145, u146, u147, u148, u149, u150, u151, u152, u153, u154, u155, u156, u157, u158, u159, u160, u161, u162, u163, u164, u165, u166, u167, u168, u169, u170, u171, u172, u173, u174, u175, u176, u177, u178, u179, u180, u181, u182, u183, u184, u185, u186, u187, u188, u189, u190, u191, u192, u193, u194, u195, u196, u197, u198, u199, u200, u201, u202, u203, u204, u205, u206, u207, u208, u209, u210, u211, u212, u213, u214, u215, u216, u217, u218, u219, u220, u221, u222, u223, u224, s225, s226, s227, s228, s229, s230, s231, s232, s233, s234, s235, s236, s237, s238, s239, s240, s241, s242, s243, .bool (decide ((n : Int) - (at0 : Int) < 7) || decide (¬ z0 = 7) || decide (¬ z1 = 5)), u245, u246, u247, u248, u249, u250, u251, u252, u253, u254, u255, u256, u257, u258, u259, u260, u261, u262, u263, u264, u265, u266, u267, u268, u269, u270, u271, u272, u273, u274, u275, u276, u277, u278, u279, u280, u281, u282, u283, u284, u285, u286, u287, u288, u289, u290, u291, u292, u293, u294, u295, u296, u297, u298, u299, u300, u301, u302, u303, u304, u305, u306, u307, u308, u309, u310, u311, u312, u313, u314, u315, u316, u317, u318, u319, u320, u321, u322, u323, u324, u325, u326, u327, u328, u329, u330, u331, u332, u333, u334, u335, u336, u337, u338, u339, u340, u341, u342, u343, u344, u345, u346, u347, u348, u349, u350, u351, u352, u353], []⟩ w') :
    Code.wp Tryd.prog (headC code23a) Q ⟨#[.slice (some ⟨b, off, none⟩) n c, u1, u2, u3, u4, u5, .int .i64 at0, u7, u8, u9, u10, u11, u12, u13, u14, u15, u16, u17, u18, u19, u20, u21, u22, u23, u24, u25, u26, u27, u28, u29, u30, u31, u32, u33, u34, u35, u36, u37, u38, u39, u40, u41, u42, u43, u44, u45, u46, u47, u48, u49, u50, u51, u52, u53, u54, u55, u56, u57, u58, u59, u60, u61, u62, u63, u64, u65, u66, u67, u68, u69, u70, u71, u72, u73, u74, u75, u76, u77, u78, u79, u80, u81, u82, u83, u84, u85, u86, u87, u88, u89, u90, u91, u92, u93, u94, u95, u96, u97, u98, u99, u100, u101, u102, u103, u104, u105, u106, u107, u108, u109, u110, u111, u112, u113, u114, u115, u116, u117, u118, u119, u120, u121, u122, u123, u124, u125, u126, u127, u128, u129, u130, u131, u132, u133, u134, u135, u136, u137, u138, u139, u140, u141, u142, u143, u144, u145, u146, u147, u148, u149, u150, u151, u152, u153, u154, u155, u156, u157, u158, u159, u160, u161, u162, u163, u164, u165, u166, u167, u168, u169, u170, u171, u172, u173, u174, u175, u176, u177, u178, u179, u180, u181, u182, u183, u184, u185, u186, u187, u188, u189, u190, u191, u192, u193, u194, u195, u196, u197, u198, u199, u200, u201, u202, u203, u204, u205, u206, u207, u208, u209, u210, u211, u212, u213, u214, u215, u216, u217, u218, u219, u220, u221, u222, u223, u224, u225, u226, u227, u228, u229, u230, u231, u232, u233, u234, u235, u236, u237, u238, u239, u240, u241, u242, u243, u244, u245, u246, u247, u248, u249, u250, u251, u252, u253, u254, u255, u256, u257, u258, u259, u260, u261, u262, u263, u264, u265, u266, u267, u268, u269, u270, u271, u272, u273, u274, u275, u276, u277, u278, u279, u280, u281, u282, u283, u284, u285, u286, u287, u288, u289, u290, u291, u292, u293, u294, u295, u296, u297, u298, u299, u300, u301, u302, u303, u304, u305, u306, u307, u308, u309, u310, u311, u312, u313, u314, u315, u316, u317, u318, u319, u320, u321, u322, u323, u324, u325, u326, u327, u328, u329, u330, u331, u332, u333, u334, u335, u336, u337, u338, u339, u340, u341, u342, u343, u344, u345, u346, u347, u348, u349, u350, u351, u352, u353], []⟩ wr := by
  obtain ⟨B, hB⟩ : ∃ B, (decide ((n : Int) - (at0 : Int) < 7) || decide (¬ z0 = 7) || decide (¬ z1 = 5)) = B := ⟨_, rfl⟩
  rw [hB] at hQ
  have HQ := hide hQ
  have HB := hide hB
  clear hQ hB
  unfold maxLen at hcm
  obtain ⟨k00, k01⟩ := k0
  obtain ⟨k10, k11⟩ := k1
  have hws : IntKind.i64.wrap ((n : Int) - (at0 : Int)) = (n : Int) - (at0 : Int) := by rw [IntKind.wrap_i64]; omega
  conv => arg 2; whnf
  by_cases hlt : (n : Int) - (at0 : Int) < 7
  case pos =>
    have hB : B = true := by rw [← HB.out]; first | (simp only [hlt, decide_true, decide_false, not_true_eq_false, not_false_eq_true, ne_eq, Bool.or_false, Bool.false_or, Bool.or_true, Bool.true_or, Bool.and_true, Bool.true_and, Bool.and_false, Bool.false_and]; done) | (simp [hlt]; done)
    subst hB
    go_wp2_with fail
    exact HQ.out _ _ _ _ _ _ _ _ _ _ _ _ _ _ _ _ _ _ _ _ (by first | exact Below.refl _ _ | exact below_drewN (Below.refl _ _) _ | go_grown)
  case neg =>
  have hlt2 : 7 ≤ (n : Int) - (at0 : Int) := by omega
  have hlt3 : at0 + 7 ≤ n := by omega
  have x0 := x0' hlt3
  have x1 := x1' hlt3
  have hbl := hb hlt3
  clear x0' x1'
  have hi0 : (0 : Int) ≤ (at0 : Int) := by omega
  have hj0 : (at0 : Int) < (n : Int) := by omega
  have hw1 : IntKind.i64.wrap ((at0 : Int) + 1) = ((at0 + 1 : Nat) : Int) := by rw [IntKind.wrap_i64]; omega
  have hi1 : (0 : Int) ≤ ((at0 + 1 : Nat) : Int) := by omega
  have hj1 : ((at0 + 1 : Nat) : Int) < (n : Int) := by omega
  have hk1 : (0 : Int) ≤ (at0 : Int) + 1 := by omega
  have hl1 : (at0 : Int) + 1 < (n : Int) := by omega
  have hm1 : ((at0 : Int) + 1).toNat = at0 + 1 := by omega
  by_cases h0 : ¬ z0 = 7
  case pos =>
    have h0e : (z0 == 7) = false := by simpa using h0
    have h0b : (z0 != 7) = true := by simpa using h0
    have hB : B = true := by rw [← HB.out]; first | (simp only [hlt, h0, decide_true, decide_false, not_true_eq_false, not_false_eq_true, ne_eq, Bool.or_false, Bool.false_or, Bool.or_true, Bool.true_or, Bool.and_true, Bool.true_and, Bool.and_false, Bool.false_and]; done) | (simp [hlt, h0]; done)
    subst hB
    try clear h0f
    try clear h0
    go_wp2_with fail
    exact HQ.out _ _ _ _ _ _ _ _ _ _ _ _ _ _ _ _ _ _ _ _ (by first | exact Below.refl _ _ | exact below_drewN (Below.refl _ _) _ | go_grown)
  case neg =>
  have h0f : z0 = 7 := by omega
  have h0e : (z0 == 7) = true := by simpa using h0f
  have h0b : (z0 != 7) = false := by simpa using h0f
  by_cases h1 : ¬ z1 = 5
  case pos =>
    have h1e : (z1 == 5) = false := by simpa using h1
    have h1b : (z1 != 5) = true := by simpa using h1
    have hB : B = true := by rw [← HB.out]; first | (simp only [hlt, h0, h1, decide_true, decide_false, not_true_eq_false, not_false_eq_true, ne_eq, Bool.or_false, Bool.false_or, Bool.or_true, Bool.true_or, Bool.and_true, Bool.true_and, Bool.and_false, Bool.false_and]; done) | (simp [hlt, h0, h1]; done)
    subst hB
    try clear h0f
    try clear h1f
    try clear h0
    try clear h1
    go_wp2_with fail
    exact HQ.out _ _ _ _ _ _ _ _ _ _ _ _ _ _ _ _ _ _ _ _ (by first | exact Below.refl _ _ | exact below_drewN (Below.refl _ _) _ | go_grown)
  case neg =>
  have h1f : z1 = 5 := by omega
  have h1e : (z1 == 5) = true := by simpa using h1f
  have h1b : (z1 != 5) = false := by simpa using h1f
  have hB : B = false := by rw [← HB.out]; first | (simp only [hlt, h0, h1, decide_true, decide_false, not_true_eq_false, not_false_eq_true, ne_eq, Bool.or_false, Bool.false_or, Bool.or_true, Bool.true_or, Bool.and_true, Bool.true_and, Bool.and_false, Bool.false_and]; done) | (simp [hlt, h0, h1]; done)
  subst hB
  try clear h0f
  try clear h1f
  try clear h0
  try clear h1
  go_wp2_with fail
  exact HQ.out _ _ _ _ _ _ _ _ _ _ _ _ _ _ _ _ _ _ _ _ (by first | exact Below.refl _ _ | exact below_drewN (Below.refl _ _) _ | go_grown)
set_option maxRecDepth 1000000 in
set_option maxHeartbeats 16000000 in
theorem acc_r28 {u0 u1 u2 u3 u4 u5 u6 u7 u8 u9 u10 u12 u14 u15 u16 u17 u18 u19 u20 u21 u22 u23 u24 u25 u26 u27 u28 u29 u30 u31 u32 u33 u34 u35 u36 u37 u38 u39 u40 u41 u42 u43 u44 u45 u46 u47 u48 u49 u50 u51 u52 u53 u54 u55 u56 u57 u58 u59 u60 u61 u62 u63 u64 u65 u66 u67 u68 u69 u70 u71 u72 u73 u74 u75 u76 u77 u78 u79 u80 u81 u82 u83 u84 u85 u86 u87 u88 u89 u90 u91 u92 u93 u94 u95 u96 u97 u98 u99 u100 u101 u102 u103 u104 u105 u106 u107 u108 u109 u110 u111 u112 u113 u114 u115 u116 u117 u118 u119 u120 u121 u122 u123 u124 u125 u126 u127 u128 u129 u130 u131 u132 u133 u134 u135 u136 u137 u138 u139 u140 u141 u142 u143 u144 u145 u146 u147 u148 u149 u150 u151 u152 u153 u154 u155 u156 u157 u158 u159 u160 u161 u162 u163 u164 u165 u166 u167 u168 u169 u170 u171 u172 u173 u174 u175 u176 u177 u178 u179 u180 u181 u182 u183 u184 u185 u186 u187 u188 u189 u190 u191 u192 u193 u194 u195 u196 u197 u198 u199 u200 u201 u202 u203 u204 u205 u206 u207 u208 u209 u210 u211 u212 u213 u214 u215 u216 u217 u218 u219 u220 u221 u222 u223 u224 u225 u226 u227 u228 u229 u230 u231 u232 u233 u234 u235 u236 u237 u238 u239 u240 u241 u242 u243 u244 u245 u246 u247 u248 u249 u250 u251 u252 u253 u254 u255 u256 u257 u258 u259 u260 u261 u262 u263 u264 u265 u266 u267 u268 u269 u270 u271 u272 u273 u274 u275 u276 u277 u278 u279 u280 u281 u282 u283 u284 u285 u286 u287 u288 u289 u290 u291 u292 u293 u294 u295 u296 u297 u298 u299 u300 u301 u302 u303 u304 u305 u306 u307 u308 u309 u310 u311 u312 u313 u314 u315 u316 u317 u318 u319 u320 u321 u322 u323 u324 u325 u326 u327 u328 u329 u330 u331 u332 u333 u334 u335 u336 u337 u338 u339 u340 u341 u342 u343 u344 u345 u346 u347 u348 u349 u350 u351 u352 u353 : Value} {kd iv : Int} {wr : World}
    (Q : Exit → Act → World → Prop) (hQ : ∀ (s319 s320 s321 s322 s323 s324 s325 s326 s327 s328 s329 s330 s331 s332 s333 s334 s335 s336 s337 s338 s339 : Value) (w' : World), Kept wr w' → Q .normal ⟨#[u0, u1, u2, u3, u4, u5, u6, u7, u8, u9, u10, .int .u8 kd, u12, .int .i64 iv, u14, u15, u16, u17, u18, u19, u20, u21, u22, u23, u24, u25, u26, u27, u28, u29, u30, u31, u32, u33, u34, u35, u36, u37, u38, u39, u40, u41, u42, u43, u44, u45, u46, u47, u48, u49, u50, u51, u52, u53, u54, u55, u56, u57, u58, u59, u60, u61, u62, u63, u64, u65, u66, u67, u68, u69, u70, u71, u72, u73, u74, u75, u76, u77, u78, u79, u80, u81, u82, u83, u84, u85, u86, u87, u88, u89, u90, u91, u92, u93, u94, u95, u96, u97, u98, u99, u100, u101, u102, u103, u104, u105, u106, u107, u108, u109, u110, u111, u112, u113, u114, u115, u116, u117, u118, u119, u120, u121, u122, u123, u124, u125, u126, u127, u128, u129, u130, u131, u132, u133, u134, u135, u136, u137, u138, u139, u140, u141, u142, u143, u144, u145, u146, u147, u148, u149, u150, u151, u152, u153, u154, u155, u156, u157, u158, u159, u160, u161, u162, u163, u164, u165, u166, u167, u168, u169, u170, u171, u172, u173, u174, u175, u176, u177, u178, u179, u180, u181, u182, u183, u184, u185, u186, u187, u188, u189, u190, u191, u192, u193, u194, u195, u196, u197, u198, u199, u200, u201, u202, u203, u204, u205, u206, u207, u208, u209, u210, u211, u212, u213, u214, u215, u216, u217, u218, u219, u220, u221, u222, u223, u224, u225, u226, u227, u228, u229, u230, u231, u232, u233, u234, u235, u236, u237, u238, u239, u240, u241, u242, u243, u244, u245, u246, u247, u248, u249, u250, u251, u252, u253, u254, u255, u256, u257, u258, u259, u260, u261, u262, u263, u264, u265, u266, u267, u268, u269, u270, u271, u272, u273, u274, u275, u276, u277, u278, u279, u280, u281, u282, u283, u284, u285, u286, u287, u288, u289, u290, u291, u292, u293, u294, u295, u296, u297, u298, u299, u300, u301, u302, u303, u304, u305, u306, u307, u308, u309, u310, u311, u312, u313, u314, u315, u316, u317, u318, s319, s320, s321, s322, s323, s324, s325, s326, s327, s328, s329, s330, s331, s332, s333, s334, s335, s336, s337, s338, s339, .bool ((decide (kd = 2) && decide (¬ iv = 0)) || (decide (¬ kd = 2) && decide (iv < 1)) || (decide (kd = 1) && decide (16 < iv))), u341, u342, u343, u344, u345, u346, u347, u348, u349, u350, u351, u352, u353], []⟩ w') :
    Code.wp Tryd.prog (headC code28a) Q ⟨#[u0, u1, u2, u3, u4, u5, u6, u7, u8, u9, u10, .int .u8 kd, u12, .int .i64 iv, u14, u15, u16, u17, u18, u19, u20, u21, u22, u23, u24, u25, u26, u27, u28, u29, u30, u31, u32, u33, u34, u35, u36, u37, u38, u39, u40, u41, u42, u43, u44, u45, u46, u47, u48, u49, u50, u51, u52, u53, u54, u55, u56, u57, u58, u59, u60, u61, u62, u63, u64, u65, u66, u67, u68, u69, u70, u71, u72, u73, u74, u75, u76, u77, u78, u79, u80, u81, u82, u83, u84, u85, u86, u87, u88, u89, u90, u91, u92, u93, u94, u95, u96, u97, u98, u99, u100, u101, u102, u103, u104, u105, u106, u107, u108, u109, u110, u111, u112, u113, u114, u115, u116, u117, u118, u119, u120, u121, u122, u123, u124, u125, u126, u127, u128, u129, u130, u131, u132, u133, u134, u135, u136, u137, u138, u139, u140, u141, u142, u143, u144, u145, u146, u147, u148, u149, u150, u151, u152, u153, u154, u155, u156, u157, u158, u159, u160, u161, u162, u163, u164, u165, u166, u167, u168, u169, u170, u171, u172, u173, u174, u175, u176, u177, u178, u179, u180, u181, u182, u183, u184, u185, u186, u187, u188, u189, u190, u191, u192, u193, u194, u195, u196, u197, u198, u199, u200, u201, u202, u203, u204, u205, u206, u207, u208, u209, u210, u211, u212, u213, u214, u215, u216, u217, u218, u219, u220, u221, u222, u223, u224, u225, u226, u227, u228, u229, u230, u231, u232, u233, u234, u235, u236, u237, u238, u239, u240, u241, u242, u243, u244, u245, u246, u247, u248, u249, u250, u251, u252, u253, u254, u255, u256, u257, u258, u259, u260, u261, u262, u263, u264, u265, u266, u267, u268, u269, u270, u271, u272, u273, u274, u275, u276, u277, u278, u279, u280, u281, u282, u283, u284, u285, u286, u287, u288, u289, u290, u291, u292, u293, u294, u295, u296, u297, u298, u299, u300, u301, u302, u303, u304, u305, u306, u307, u308, u309, u310, u311, u312, u313, u314, u315, u316, u317, u318, u319, u320, u321, u322, u323, u324, u325, u326, u327, u328, u329, u330, u331, u332, u333, u334, u335, u336, u337, u338, u339, u340, u341, u342, u343, u344, u345, u346, u347, u348, u349, u350, u351, u352, u353], []⟩ wr := by
  obtain ⟨B, hB⟩ : ∃ B, ((decide (kd = 2) && decide (¬ iv = 0)) || (decide (¬ kd = 2) && decide (iv < 1)) || (decide (kd = 1) && decide (16 < iv))) = B := ⟨_, rfl⟩
  rw [hB] at hQ
  have HQ := hide hQ
  have HB := hide hB
  clear hQ hB
  conv => arg 2; whnf
  by_cases h2 : kd = 2
  case pos =>
    have h2e : (kd == 2) = true := by simpa using h2
    have h2b : (kd != 2) = false := by simpa using h2
    have h2n : ¬ kd = 1 := by omega
    have h2m : (kd == 1) = false := by simpa using h2n
    by_cases h0 : iv = 0
    case pos =>
      have h0e : (iv == 0) = true := by simpa using h0
      have h0b : (iv != 0) = false := by simpa using h0
      have hB : B = false := by rw [← HB.out]; first | (simp only [h2, h0, decide_true, decide_false, not_true_eq_false, not_false_eq_true, ne_eq, Bool.or_false, Bool.false_or, Bool.or_true, Bool.true_or, Bool.and_true, Bool.true_and, Bool.and_false, Bool.false_and]; done) | (simp [h2, h0]; done)
      subst hB
      try clear h2f
      try clear h0f
      try clear h2
      try clear h0
      go_wp2_with fail
      exact HQ.out _ _ _ _ _ _ _ _ _ _ _ _ _ _ _ _ _ _ _ _ _ _ (by first | exact Below.refl _ _ | exact below_drewN (Below.refl _ _) _ | go_grown)
    case neg =>
    have h0e : (iv == 0) = false := by simpa using h0
    have h0b : (iv != 0) = true := by simpa using h0
    have hB : B = true := by rw [← HB.out]; first | (simp only [h2, h0, decide_true, decide_false, not_true_eq_false, not_false_eq_true, ne_eq, Bool.or_false, Bool.false_or, Bool.or_true, Bool.true_or, Bool.and_true, Bool.true_and, Bool.and_false, Bool.false_and]; done) | (simp [h2, h0]; done)
    subst hB
    try clear h2f
    try clear h0f
    try clear h2
    try clear h0
    go_wp2_with fail
    exact HQ.out _ _ _ _ _ _ _ _ _ _ _ _ _ _ _ _ _ _ _ _ _ _ (by first | exact Below.refl _ _ | exact below_drewN (Below.refl _ _) _ | go_grown)
  case neg =>
  have h2e : (kd == 2) = false := by simpa using h2
  have h2b : (kd != 2) = true := by simpa using h2
  by_cases h1 : iv < 1
  case pos =>
    have hB : B = true := by rw [← HB.out]; first | (simp only [h2, h1, decide_true, decide_false, not_true_eq_false, not_false_eq_true, ne_eq, Bool.or_false, Bool.false_or, Bool.or_true, Bool.true_or, Bool.and_true, Bool.true_and, Bool.and_false, Bool.false_and]; done) | (simp [h2, h1]; done)
    subst hB
    try clear h2f
    try clear h2
    go_wp2_with fail
    exact HQ.out _ _ _ _ _ _ _ _ _ _ _ _ _ _ _ _ _ _ _ _ _ _ (by first | exact Below.refl _ _ | exact below_drewN (Below.refl _ _) _ | go_grown)
  case neg =>
  have h1f : 1 ≤ iv := by omega
  by_cases h3 : kd = 1
  case pos =>
    have h3e : (kd == 1) = true := by simpa using h3
    have h3b : (kd != 1) = false := by simpa using h3
    by_cases h4 : 16 < iv
    case pos =>
      have hB : B = true := by rw [← HB.out]; first | (simp only [h2, h1, h3, h4, decide_true, decide_false, not_true_eq_false, not_false_eq_true, ne_eq, Bool.or_false, Bool.false_or, Bool.or_true, Bool.true_or, Bool.and_true, Bool.true_and, Bool.and_false, Bool.false_and]; done) | (simp [h2, h1, h3, h4]; done)
      subst hB
      try clear h2f
      try clear h3f
      try clear h2
      try clear h3
      go_wp2_with fail
      exact HQ.out _ _ _ _ _ _ _ _ _ _ _ _ _ _ _ _ _ _ _ _ _ _ (by first | exact Below.refl _ _ | exact below_drewN (Below.refl _ _) _ | go_grown)
    case neg =>
    have h4f : iv ≤ 16 := by omega
    have hB : B = false := by rw [← HB.out]; first | (simp only [h2, h1, h3, h4, decide_true, decide_false, not_true_eq_false, not_false_eq_true, ne_eq, Bool.or_false, Bool.false_or, Bool.or_true, Bool.true_or, Bool.and_true, Bool.true_and, Bool.and_false, Bool.false_and]; done) | (simp [h2, h1, h3, h4]; done)
    subst hB
    try clear h2f
    try clear h3f
    try clear h2
    try clear h3
    go_wp2_with fail
    exact HQ.out _ _ _ _ _ _ _ _ _ _ _ _ _ _ _ _ _ _ _ _ _ _ (by first | exact Below.refl _ _ | exact below_drewN (Below.refl _ _) _ | go_grown)
  case neg =>
  have h3e : (kd == 1) = false := by simpa using h3
  have h3b : (kd != 1) = true := by simpa using h3
  have hB : B = false := by rw [← HB.out]; first | (simp only [h2, h1, h3, decide_true, decide_false, not_true_eq_false, not_false_eq_true, ne_eq, Bool.or_false, Bool.false_or, Bool.or_true, Bool.true_or, Bool.and_true, Bool.true_and, Bool.and_false, Bool.false_and]; done) | (simp [h2, h1, h3]; done)
  subst hB
  try clear h2f
  try clear h3f
  try clear h2
  try clear h3
  go_wp2_with fail
  exact HQ.out _ _ _ _ _ _ _ _ _ _ _ _ _ _ _ _ _ _ _ _ _ _ (by first | exact Below.refl _ _ | exact below_drewN (Below.refl _ _) _ | go_grown)
end Go.Proofs.YtjgncofhobhjdaaDoor
/- accepted: an endpoint, tested. Printed by gen_aa.py. -/
namespace Go.Proofs.YtjgncofhobhjdaaDoor
open Go.RowKit
attribute [local go_sem ↓] Go.wp_at_zero Go.wp_at_succ

set_option maxRecDepth 1000000 in
set_option maxHeartbeats 16000000 in
theorem acc_r26 {u0 u1 u2 u5 u6 u7 u9 u13 u14 u15 u16 u17 u18 u19 u20 u21 u22 u23 u24 u25 u26 u27 u28 u29 u30 u31 u32 u33 u34 u35 u36 u37 u38 u39 u40 u41 u42 u43 u44 u45 u46 u47 u48 u49 u50 u51 u52 u53 u54 u55 u56 u57 u58 u59 u60 u61 u62 u63 u64 u65 u66 u67 u68 u69 u70 u71 u72 u73 u74 u75 u76 u77 u78 u79 u80 u81 u82 u83 u84 u85 u86 u87 u88 u89 u90 u91 u92 u93 u94 u95 u96 u97 u98 u99 u100 u101 u102 u103 u104 u105 u106 u107 u108 u109 u110 u111 u112 u113 u114 u115 u116 u117 u118 u119 u120 u121 u122 u123 u124 u125 u126 u127 u128 u129 u130 u131 u132 u133 u134 u135 u136 u137 u138 u139 u140 u141 u142 u143 u144 u145 u146 u147 u148 u149 u150 u151 u152 u153 u154 u155 u156 u157 u158 u159 u160 u161 u162 u163 u164 u165 u166 u167 u168 u169 u170 u171 u172 u173 u174 u175 u176 u177 u178 u179 u180 u181 u182 u183 u184 u185 u186 u187 u188 u189 u190 u191 u192 u193 u194 u195 u196 u197 u198 u199 u200 u201 u202 u203 u204 u205 u206 u207 u208 u209 u210 u211 u212 u213 u214 u215 u216 u217 u218 u219 u220 u221 u222 u223 u224 u225 u226 u227 u228 u229 u230 u231 u232 u233 u234 u235 u236 u237 u238 u239 u240 u241 u242 u243 u244 u245 u246 u247 u248 u249 u250 u251 u252 u253 u254 u255 u256 u257 u258 u259 u260 u261 u262 u263 u264 u265 u266 u267 u268 u269 u270 u271 u272 u273 u274 u275 u276 u277 u278 u279 u280 u281 u282 u283 u284 u285 u286 u287 u288 u289 u290 u291 u292 u293 u294 u295 u296 u297 u298 u299 u300 u301 u302 u303 u304 u305 u306 u307 u308 u309 u310 u311 u312 u313 u314 u315 u316 u317 u318 u319 u320 u321 u322 u323 u324 u325 u326 u327 u328 u329 u330 u331 u332 u333 u334 u335 u336 u337 u338 u339 u340 u341 u342 u343 u344 u345 u346 u347 u348 u349 u350 u351 u352 u353 : Value} {OB SB ifc a oa : Nat} {kd mx : Int} {sa : Bool} {wr : World} (ha : a < 256) (ls : SB < wr.heap.size) (lo : OB < wr.heap.size) (cs : wr.cell? ⟨SB, a, none⟩ = some (.int .i64 (if sa then 1 else 0))) (co : wr.cell? ⟨OB, a, none⟩ = some (.int .i64 oa))
    (Q : Exit → Act → World → Prop) (hQ : ∀ (s276 s277 s278 s279 s280 s281 s282 s283 s284 s285 s286 s287 s288 s289 s290 s291 s292 s293 s294 s295 s296 s297 s298 s299 s300 s301 s302 s303 s304 s305 s306 s307 s308 s309 s310 s311 s312 s313 s314 s315 s316 s317 : Value) (w' : World), Kept wr w' → Q .normal ⟨#[u0, u1, u2, .pointer (some ⟨OB, 0, none⟩), .int .i64 ifc, u5, u6, u7, .pointer (some ⟨SB, 0, none⟩), u9, .int .i64 a, .int .u8 kd, .int .i64 mx, u13, u14, u15, u16, u17, u18, u19, u20, u21, u22, u23, u24, u25, u26, u27, u28, u29, u30, u31, u32, u33, u34, u35, u36, u37, u38, u39, u40, u41, u42, u43, u44, u45, u46, u47, u48, u49, u50, u51, u52, u53, u54, u55, u56, u57, u58, u59, u60, u61, u62, u63, u64, u65, u66, u67, u68, u69, u70, u71, u72, u73, u74, u75, u76, u77, u78, u79, u80, u81, u82, u83, u84, u85, u86, u87, u88, u89, u90, u91, u92, u93, u94, u95, u96, u97, u98, u99, u100, u101, u102, u103, u104, u105, u106, u107, u108, u109, u110, u111, u112, u113, u114, u115, u116, u117, u118, u119, u120, u121, u122, u123, u124, u125, u126, u127, u128, u129, u130, u131, u132, u133, u134, u135, u136, u137, u138, u139, u140, u141, u142, u143, u144, u145, u146, u147, u148, u149, u150, u151, u152, u153, u154, u155, u156, u157, u158, u159, u160, u161, u162, u163, u164, u165, u166, u167, u168, u169, u170, u171, u172, u173, u174, u175, u176, u177, u178, u179, u180, u181, u182, u183, u184, u185, u186, u187, u188, u189, u190, u191, u192, u193, u194, u195, u196, u197, u198, u199, u200, u201, u202, u203, u204, u205, u206, u207, u208, u209, u210, u211, u212, u213, u214, u215, u216, u217, u218, u219, u220, u221, u222, u223, u224, u225, u226, u227, u228, u229, u230, u231, u232, u233, u234, u235, u236, u237, u238, u239, u240, u241, u242, u243, u244, u245, u246, u247, u248, u249, u250, u251, u252, u253, u254, u255, u256, u257, u258, u259, u260, u261, u262, u263, u264, u265, u266, u267, u268, u269, u270, u271, u272, u273, u274, u275, s276, s277, s278, s279, s280, s281, s282, s283, s284, s285, s286, s287, s288, s289, s290, s291, s292, s293, s294, s295, s296, s297, s298, s299, s300, s301, s302, s303, s304, s305, s306, s307, s308, s309, s310, s311, s312, s313, s314, s315, s316, s317, .bool (decide ((a : Int) % 128 < 1) || decide (15 < (a : Int) % 128) || decide (kd < 1) || decide (3 < kd) || decide (mx < 1) || decide (1024 < mx) || sa || (decide (0 < oa) && decide (oa ≠ ifc))), u319, u320, u321, u322, u323, u324, u325, u326, u327, u328, u329, u330, u331, u332, u333, u334, u335, u336, u337, u338, u339, u340, u341, u342, u343, u344, u345, u346, u347, u348, u349, u350, u351, u352, u353], []⟩ w') :
    Code.wp Tryd.prog (headC code26a) Q ⟨#[u0, u1, u2, .pointer (some ⟨OB, 0, none⟩), .int .i64 ifc, u5, u6, u7, .pointer (some ⟨SB, 0, none⟩), u9, .int .i64 a, .int .u8 kd, .int .i64 mx, u13, u14, u15, u16, u17, u18, u19, u20, u21, u22, u23, u24, u25, u26, u27, u28, u29, u30, u31, u32, u33, u34, u35, u36, u37, u38, u39, u40, u41, u42, u43, u44, u45, u46, u47, u48, u49, u50, u51, u52, u53, u54, u55, u56, u57, u58, u59, u60, u61, u62, u63, u64, u65, u66, u67, u68, u69, u70, u71, u72, u73, u74, u75, u76, u77, u78, u79, u80, u81, u82, u83, u84, u85, u86, u87, u88, u89, u90, u91, u92, u93, u94, u95, u96, u97, u98, u99, u100, u101, u102, u103, u104, u105, u106, u107, u108, u109, u110, u111, u112, u113, u114, u115, u116, u117, u118, u119, u120, u121, u122, u123, u124, u125, u126, u127, u128, u129, u130, u131, u132, u133, u134, u135, u136, u137, u138, u139, u140, u141, u142, u143, u144, u145, u146, u147, u148, u149, u150, u151, u152, u153, u154, u155, u156, u157, u158, u159, u160, u161, u162, u163, u164, u165, u166, u167, u168, u169, u170, u171, u172, u173, u174, u175, u176, u177, u178, u179, u180, u181, u182, u183, u184, u185, u186, u187, u188, u189, u190, u191, u192, u193, u194, u195, u196, u197, u198, u199, u200, u201, u202, u203, u204, u205, u206, u207, u208, u209, u210, u211, u212, u213, u214, u215, u216, u217, u218, u219, u220, u221, u222, u223, u224, u225, u226, u227, u228, u229, u230, u231, u232, u233, u234, u235, u236, u237, u238, u239, u240, u241, u242, u243, u244, u245, u246, u247, u248, u249, u250, u251, u252, u253, u254, u255, u256, u257, u258, u259, u260, u261, u262, u263, u264, u265, u266, u267, u268, u269, u270, u271, u272, u273, u274, u275, u276, u277, u278, u279, u280, u281, u282, u283, u284, u285, u286, u287, u288, u289, u290, u291, u292, u293, u294, u295, u296, u297, u298, u299, u300, u301, u302, u303, u304, u305, u306, u307, u308, u309, u310, u311, u312, u313, u314, u315, u316, u317, u318, u319, u320, u321, u322, u323, u324, u325, u326, u327, u328, u329, u330, u331, u332, u333, u334, u335, u336, u337, u338, u339, u340, u341, u342, u343, u344, u345, u346, u347, u348, u349, u350, u351, u352, u353], []⟩ wr := by
  obtain ⟨B, hB⟩ : ∃ B, (decide ((a : Int) % 128 < 1) || decide (15 < (a : Int) % 128) || decide (kd < 1) || decide (3 < kd) || decide (mx < 1) || decide (1024 < mx) || sa || (decide (0 < oa) && decide (oa ≠ ifc))) = B := ⟨_, rfl⟩
  rw [hB] at hQ
  have HQ := hide hQ
  have HB := hide hB
  clear hQ hB
  have ha0 : (0 : Int) ≤ (a : Int) := by omega
  have ha1 : (a : Int) < 256 := by omega
  have ham : (a : Int).tmod 128 = (a : Int) % 128 := Int.tmod_eq_emod_of_nonneg ha0
  conv => arg 2; whnf
  by_cases h0 : (a : Int) % 128 < 1
  case pos =>
    have hB : B = true := by rw [← HB.out]; first | (simp only [h0, decide_true, decide_false, not_true_eq_false, not_false_eq_true, ne_eq, Bool.or_false, Bool.false_or, Bool.or_true, Bool.true_or, Bool.and_true, Bool.true_and, Bool.and_false, Bool.false_and]; done) | (simp [h0]; done)
    subst hB
    go_wp2_with fail
    exact HQ.out _ _ _ _ _ _ _ _ _ _ _ _ _ _ _ _ _ _ _ _ _ _ _ _ _ _ _ _ _ _ _ _ _ _ _ _ _ _ _ _ _ _ _ (by first | exact Below.refl _ _ | exact below_drewN (Below.refl _ _) _ | go_grown)
  case neg =>
  have h0f : 1 ≤ (a : Int) % 128 := by omega
  by_cases h1 : 15 < (a : Int) % 128
  case pos =>
    have hB : B = true := by rw [← HB.out]; first | (simp only [h0, h1, decide_true, decide_false, not_true_eq_false, not_false_eq_true, ne_eq, Bool.or_false, Bool.false_or, Bool.or_true, Bool.true_or, Bool.and_true, Bool.true_and, Bool.and_false, Bool.false_and]; done) | (simp [h0, h1]; done)
    subst hB
    go_wp2_with fail
    exact HQ.out _ _ _ _ _ _ _ _ _ _ _ _ _ _ _ _ _ _ _ _ _ _ _ _ _ _ _ _ _ _ _ _ _ _ _ _ _ _ _ _ _ _ _ (by first | exact Below.refl _ _ | exact below_drewN (Below.refl _ _) _ | go_grown)
  case neg =>
  have h1f : (a : Int) % 128 ≤ 15 := by omega
  by_cases h2 : kd < 1
  case pos =>
    have hB : B = true := by rw [← HB.out]; first | (simp only [h0, h1, h2, decide_true, decide_false, not_true_eq_false, not_false_eq_true, ne_eq, Bool.or_false, Bool.false_or, Bool.or_true, Bool.true_or, Bool.and_true, Bool.true_and, Bool.and_false, Bool.false_and]; done) | (simp [h0, h1, h2]; done)
    subst hB
    go_wp2_with fail
    exact HQ.out _ _ _ _ _ _ _ _ _ _ _ _ _ _ _ _ _ _ _ _ _ _ _ _ _ _ _ _ _ _ _ _ _ _ _ _ _ _ _ _ _ _ _ (by first | exact Below.refl _ _ | exact below_drewN (Below.refl _ _) _ | go_grown)
  case neg =>
  have h2f : 1 ≤ kd := by omega
  by_cases h3 : 3 < kd
  case pos =>
    have hB : B = true := by rw [← HB.out]; first | (simp only [h0, h1, h2, h3, decide_true, decide_false, not_true_eq_false, not_false_eq_true, ne_eq, Bool.or_false, Bool.false_or, Bool.or_true, Bool.true_or, Bool.and_true, Bool.true_and, Bool.and_false, Bool.false_and]; done) | (simp [h0, h1, h2, h3]; done)
    subst hB
    go_wp2_with fail
    exact HQ.out _ _ _ _ _ _ _ _ _ _ _ _ _ _ _ _ _ _ _ _ _ _ _ _ _ _ _ _ _ _ _ _ _ _ _ _ _ _ _ _ _ _ _ (by first | exact Below.refl _ _ | exact below_drewN (Below.refl _ _) _ | go_grown)
  case neg =>
  have h3f : kd ≤ 3 := by omega
  by_cases h4 : mx < 1
  case pos =>
    have hB : B = true := by rw [← HB.out]; first | (simp only [h0, h1, h2, h3, h4, decide_true, decide_false, not_true_eq_false, not_false_eq_true, ne_eq, Bool.or_false, Bool.false_or, Bool.or_true, Bool.true_or, Bool.and_true, Bool.true_and, Bool.and_false, Bool.false_and]; done) | (simp [h0, h1, h2, h3, h4]; done)
    subst hB
    go_wp2_with fail
    exact HQ.out _ _ _ _ _ _ _ _ _ _ _ _ _ _ _ _ _ _ _ _ _ _ _ _ _ _ _ _ _ _ _ _ _ _ _ _ _ _ _ _ _ _ _ (by first | exact Below.refl _ _ | exact below_drewN (Below.refl _ _) _ | go_grown)
  case neg =>
  have h4f : 1 ≤ mx := by omega
  by_cases h5 : 1024 < mx
  case pos =>
    have hB : B = true := by rw [← HB.out]; first | (simp only [h0, h1, h2, h3, h4, h5, decide_true, decide_false, not_true_eq_false, not_false_eq_true, ne_eq, Bool.or_false, Bool.false_or, Bool.or_true, Bool.true_or, Bool.and_true, Bool.true_and, Bool.and_false, Bool.false_and]; done) | (simp [h0, h1, h2, h3, h4, h5]; done)
    subst hB
    go_wp2_with fail
    exact HQ.out _ _ _ _ _ _ _ _ _ _ _ _ _ _ _ _ _ _ _ _ _ _ _ _ _ _ _ _ _ _ _ _ _ _ _ _ _ _ _ _ _ _ _ (by first | exact Below.refl _ _ | exact below_drewN (Below.refl _ _) _ | go_grown)
  case neg =>
  have h5f : mx ≤ 1024 := by omega
  by_cases h6 : sa = true
  case pos =>
    rw [h6, if_pos rfl] at cs
    have hB : B = true := by rw [← HB.out]; first | (simp only [h0, h1, h2, h3, h4, h5, h6, decide_true, decide_false, not_true_eq_false, not_false_eq_true, ne_eq, Bool.or_false, Bool.false_or, Bool.or_true, Bool.true_or, Bool.and_true, Bool.true_and, Bool.and_false, Bool.false_and]; done) | (simp [h0, h1, h2, h3, h4, h5, h6]; done)
    subst hB
    try clear h6f
    try clear h6
    go_wp2_with fail
    exact HQ.out _ _ _ _ _ _ _ _ _ _ _ _ _ _ _ _ _ _ _ _ _ _ _ _ _ _ _ _ _ _ _ _ _ _ _ _ _ _ _ _ _ _ _ (by first | exact Below.refl _ _ | exact below_drewN (Below.refl _ _) _ | go_grown)
  case neg =>
  have h6f : sa = false := by simpa using h6
  rw [h6f, if_neg (by decide)] at cs
  by_cases h7 : 0 < oa
  case pos =>
    have h7f : (0 : Int) < (oa : Int) := by omega
    by_cases h8 : oa ≠ ifc
    case pos =>
      have h8f : ¬ (oa : Int) = (ifc : Int) := by omega
      have h8e : ((oa : Int) == (ifc : Int)) = false := by simpa using h8f
      have h8b : ((oa : Int) != (ifc : Int)) = true := by simpa using h8f
      have hB : B = true := by rw [← HB.out]; first | (simp only [h0, h1, h2, h3, h4, h5, h6, h7, h8, decide_true, decide_false, not_true_eq_false, not_false_eq_true, ne_eq, Bool.or_false, Bool.false_or, Bool.or_true, Bool.true_or, Bool.and_true, Bool.true_and, Bool.and_false, Bool.false_and]; done) | (simp [h0, h1, h2, h3, h4, h5, h6, h7, h8]; done)
      subst hB
      try clear h6f
      try clear h6
      go_wp2_with fail
      exact HQ.out _ _ _ _ _ _ _ _ _ _ _ _ _ _ _ _ _ _ _ _ _ _ _ _ _ _ _ _ _ _ _ _ _ _ _ _ _ _ _ _ _ _ _ (by first | exact Below.refl _ _ | exact below_drewN (Below.refl _ _) _ | go_grown)
    case neg =>
    have h8f : (oa : Int) = (ifc : Int) := by omega
    have h8e : ((oa : Int) == (ifc : Int)) = true := by simpa using h8f
    have h8b : ((oa : Int) != (ifc : Int)) = false := by simpa using h8f
    clear h8f
    have hB : B = false := by rw [← HB.out]; first | (simp only [h0, h1, h2, h3, h4, h5, h6, h7, h8, decide_true, decide_false, not_true_eq_false, not_false_eq_true, ne_eq, Bool.or_false, Bool.false_or, Bool.or_true, Bool.true_or, Bool.and_true, Bool.true_and, Bool.and_false, Bool.false_and]; done) | (simp [h0, h1, h2, h3, h4, h5, h6, h7, h8]; done)
    subst hB
    try clear h6f
    try clear h6
    go_wp2_with fail
    exact HQ.out _ _ _ _ _ _ _ _ _ _ _ _ _ _ _ _ _ _ _ _ _ _ _ _ _ _ _ _ _ _ _ _ _ _ _ _ _ _ _ _ _ _ _ (by first | exact Below.refl _ _ | exact below_drewN (Below.refl _ _) _ | go_grown)
  case neg =>
  have h7g : oa = 0 := by omega
  have h7f : (oa : Int) ≤ 0 := by omega
  have hB : B = false := by rw [← HB.out]; first | (simp only [h0, h1, h2, h3, h4, h5, h6, h7, decide_true, decide_false, not_true_eq_false, not_false_eq_true, ne_eq, Bool.or_false, Bool.false_or, Bool.or_true, Bool.true_or, Bool.and_true, Bool.true_and, Bool.and_false, Bool.false_and]; done) | (simp [h0, h1, h2, h3, h4, h5, h6, h7]; done)
  subst hB
  try clear h6f
  try clear h6
  go_wp2_with fail
  exact HQ.out _ _ _ _ _ _ _ _ _ _ _ _ _ _ _ _ _ _ _ _ _ _ _ _ _ _ _ _ _ _ _ _ _ _ _ _ _ _ _ _ _ _ _ (by first | exact Below.refl _ _ | exact below_drewN (Below.refl _ _) _ | go_grown)
set_option maxRecDepth 1000000 in
set_option maxHeartbeats 16000000 in
theorem acc_r25 {u1 u2 u3 u4 u5 u7 u8 u9 u10 u11 u12 u13 u14 u15 u16 u17 u18 u19 u20 u21 u22 u23 u24 u25 u26 u27 u28 u29 u30 u31 u32 u33 u34 u35 u36 u37 u38 u39 u40 u41 u42 u43 u44 u45 u46 u47 u48 u49 u50 u51 u52 u53 u54 u55 u56 u57 u58 u59 u60 u61 u62 u63 u64 u65 u66 u67 u68 u69 u70 u71 u72 u73 u74 u75 u76 u77 u78 u79 u80 u81 u82 u83 u84 u85 u86 u87 u88 u89 u90 u91 u92 u93 u94 u95 u96 u97 u98 u99 u100 u101 u102 u103 u104 u105 u106 u107 u108 u109 u110 u111 u112 u113 u114 u115 u116 u117 u118 u119 u120 u121 u122 u123 u124 u125 u126 u127 u128 u129 u130 u131 u132 u133 u134 u135 u136 u137 u138 u139 u140 u141 u142 u143 u144 u145 u146 u147 u148 u149 u150 u151 u152 u153 u154 u155 u156 u157 u158 u159 u160 u161 u162 u163 u164 u165 u166 u167 u168 u169 u170 u171 u172 u173 u174 u175 u176 u177 u178 u179 u180 u181 u182 u183 u184 u185 u186 u187 u188 u189 u190 u191 u192 u193 u194 u195 u196 u197 u198 u199 u200 u201 u202 u203 u204 u205 u206 u207 u208 u209 u210 u211 u212 u213 u214 u215 u216 u217 u218 u219 u220 u221 u222 u223 u224 u225 u226 u227 u228 u229 u230 u231 u232 u233 u234 u235 u236 u237 u238 u239 u240 u241 u242 u243 u244 u245 u246 u247 u248 u249 u250 u251 u252 u253 u254 u255 u256 u257 u258 u259 u260 u261 u262 u263 u264 u265 u266 u267 u268 u269 u270 u271 u272 u273 u274 u275 u276 u277 u278 u279 u280 u281 u282 u283 u284 u285 u286 u287 u288 u289 u290 u291 u292 u293 u294 u295 u296 u297 u298 u299 u300 u301 u302 u303 u304 u305 u306 u307 u308 u309 u310 u311 u312 u313 u314 u315 u316 u317 u318 u319 u320 u321 u322 u323 u324 u325 u326 u327 u328 u329 u330 u331 u332 u333 u334 u335 u336 u337 u338 u339 u340 u341 u342 u343 u344 u345 u346 u347 u348 u349 u350 u351 u352 u353 : Value} {b off n c at0 : Nat} {wr : World} (hnc : n ≤ c) (hcm : c ≤ maxLen) (hat : at0 ≤ n) {z2 z3 z4 z5 z6 : Int} (hlt3 : at0 + 7 ≤ n) (hb : at0 + 7 ≤ n → b < wr.heap.size) (x2' : at0 + 7 ≤ n → wr.cell? ⟨b, off + (at0 + 2), none⟩ = some (.int .u8 z2)) (x3' : at0 + 7 ≤ n → wr.cell? ⟨b, off + (at0 + 3), none⟩ = some (.int .u8 z3)) (x4' : at0 + 7 ≤ n → wr.cell? ⟨b, off + (at0 + 4), none⟩ = some (.int .u8 z4)) (x5' : at0 + 7 ≤ n → wr.cell? ⟨b, off + (at0 + 5), none⟩ = some (.int .u8 z5)) (x6' : at0 + 7 ≤ n → wr.cell? ⟨b, off + (at0 + 6), none⟩ = some (.int .u8 z6)) (k2 : u8k z2) (k3 : u8k z3) (k4 : u8k z4) (k5 : u8k z5) (k6 : u8k z6)
    (Q : Exit → Act → World → Prop) (hQ : ∀ (s245 s246 s247 s248 s249 s250 s251 s252 s253 s254 s255 s256 s257 s258 s259 s260 s261 s262 s263 s264 s265 s266 s267 s268 s269 s270 s271 s272 s273 s274 s275 : Value) (w' : World), Kept wr w' → Q .normal ⟨#[.slice (some ⟨b, off, none⟩) n c, u1, u2, u3, u4, u5, .int .i64 at0, u7, u8, u9, .int .i64 z2, .int .u8 z3, .int .i64 (z4 + 256 * z5), .int .i64 z6, u14, u15, u16, u17, u18, u19, u20, u21, u22, u23, u24, u25, u26, u27, u28, u29, u30, u31, u32, u33, u34, u35, u36, u37, u38, u39, u40, u41, u42, u43, u44, u45, u46, u47, u48, u49, u50, u51, u52, u53, u54, u55, u56, u57, u58, u59, u60, u61, u62, u63, u64, u65, u66, u67, u68, u69, u70, u71, u72, u73, u74, u75, u76, u77, u78, u79, u80, u81, u82, u83, u84, u85, u86, u87, u88, u89, u90, u91, u92, u93, u94, u95, u96, u97, u98, u99, u100, u101, u102, u103, u104, u105, u106, u107, u108, u109, u110, u111, u112, u113, u114, u115, u116, u117, u118, u119, u120, u121, u122, u123, u124, u125, u126, u127, u128, u129, u130, u131, u132, u133, u134, u135, u136, u137, u138, u139, u140, u141, u142, u143, u144, u145, u146, u147, u148, u149, u150, u151, u152, u153, u154, u155, u156, u157, u158, u159, u160, u161, u162, u163, u164, u165, u166, u167, u168, u169, u170, u171, u172, u173, u174, u175, u176, u177, u178, u179, u180, u181, u182, u183, u184, u185, u186, u187, u188, u189, u190, u191, u192, u193, u194, u195, u196, u197, u198, u199, u200, u201, u202, u203, u204, u205, u206, u207, u208, u209, u210, u211, u212, u213, u214, u215, u216, u217, u218, u219, u220, u221, u222, u223, u224, u225, u226, u227, u228, u229, u230, u231, u232, u233, u234, u235, u236, u237, u238, u239, u240, u241, u242, u243, u244, s245, s246, s247, s248, s249, s250, s251, s252, s253, s254, s255, s256, s257, s258, s259, s260, s261, s262, s263, s264, s265, s266, s267, s268, s269, s270, s271, s272, s273, s274, s275, u276, u277, u278, u279, u280, u281, u282, u283, u284, u285, u286, u287, u288, u289, u290, u291, u292, u293, u294, u295, u296, u297, u298, u299, u300, u301, u302, u303, u304, u305, u306, u307, u308, u309, u310, u311, u312, u313, u314, u315, u316, u317, u318, u319, u320, u321, u322, u323, u324, u325, u326, u327, u328, u329, u330, u331, u332, u333, u334, u335, u336, u337, u338, u339, u340, u341, u342, u343, u344, u345, u346, u347, u348, u349, u350, u351, u352, u353], []⟩ w') :
    Code.wp Tryd.prog (headC code25a) Q ⟨#[.slice (some ⟨b, off, none⟩) n c, u1, u2, u3, u4, u5, .int .i64 at0, u7, u8, u9, u10, u11, u12, u13, u14, u15, u16, u17, u18, u19, u20, u21, u22, u23, u24, u25, u26, u27, u28, u29, u30, u31, u32, u33, u34, u35, u36, u37, u38, u39, u40, u41, u42, u43, u44, u45, u46, u47, u48, u49, u50, u51, u52, u53, u54, u55, u56, u57, u58, u59, u60, u61, u62, u63, u64, u65, u66, u67, u68, u69, u70, u71, u72, u73, u74, u75, u76, u77, u78, u79, u80, u81, u82, u83, u84, u85, u86, u87, u88, u89, u90, u91, u92, u93, u94, u95, u96, u97, u98, u99, u100, u101, u102, u103, u104, u105, u106, u107, u108, u109, u110, u111, u112, u113, u114, u115, u116, u117, u118, u119, u120, u121, u122, u123, u124, u125, u126, u127, u128, u129, u130, u131, u132, u133, u134, u135, u136, u137, u138, u139, u140, u141, u142, u143, u144, u145, u146, u147, u148, u149, u150, u151, u152, u153, u154, u155, u156, u157, u158, u159, u160, u161, u162, u163, u164, u165, u166, u167, u168, u169, u170, u171, u172, u173, u174, u175, u176, u177, u178, u179, u180, u181, u182, u183, u184, u185, u186, u187, u188, u189, u190, u191, u192, u193, u194, u195, u196, u197, u198, u199, u200, u201, u202, u203, u204, u205, u206, u207, u208, u209, u210, u211, u212, u213, u214, u215, u216, u217, u218, u219, u220, u221, u222, u223, u224, u225, u226, u227, u228, u229, u230, u231, u232, u233, u234, u235, u236, u237, u238, u239, u240, u241, u242, u243, u244, u245, u246, u247, u248, u249, u250, u251, u252, u253, u254, u255, u256, u257, u258, u259, u260, u261, u262, u263, u264, u265, u266, u267, u268, u269, u270, u271, u272, u273, u274, u275, u276, u277, u278, u279, u280, u281, u282, u283, u284, u285, u286, u287, u288, u289, u290, u291, u292, u293, u294, u295, u296, u297, u298, u299, u300, u301, u302, u303, u304, u305, u306, u307, u308, u309, u310, u311, u312, u313, u314, u315, u316, u317, u318, u319, u320, u321, u322, u323, u324, u325, u326, u327, u328, u329, u330, u331, u332, u333, u334, u335, u336, u337, u338, u339, u340, u341, u342, u343, u344, u345, u346, u347, u348, u349, u350, u351, u352, u353], []⟩ wr := by
  have HQ := hide hQ
  clear hQ
  unfold maxLen at hcm
  obtain ⟨k20, k21⟩ := k2
  obtain ⟨k30, k31⟩ := k3
  obtain ⟨k40, k41⟩ := k4
  obtain ⟨k50, k51⟩ := k5
  obtain ⟨k60, k61⟩ := k6
  have x2 := x2' hlt3
  have x3 := x3' hlt3
  have x4 := x4' hlt3
  have x5 := x5' hlt3
  have x6 := x6' hlt3
  have hbl := hb hlt3
  clear x2' x3' x4' x5' x6'
  have hw2 : IntKind.i64.wrap ((at0 : Int) + 2) = ((at0 + 2 : Nat) : Int) := by rw [IntKind.wrap_i64]; omega
  have hi2 : (0 : Int) ≤ ((at0 + 2 : Nat) : Int) := by omega
  have hj2 : ((at0 + 2 : Nat) : Int) < (n : Int) := by omega
  have hk2 : (0 : Int) ≤ (at0 : Int) + 2 := by omega
  have hl2 : (at0 : Int) + 2 < (n : Int) := by omega
  have hm2 : ((at0 : Int) + 2).toNat = at0 + 2 := by omega
  have hw3 : IntKind.i64.wrap ((at0 : Int) + 3) = ((at0 + 3 : Nat) : Int) := by rw [IntKind.wrap_i64]; omega
  have hi3 : (0 : Int) ≤ ((at0 + 3 : Nat) : Int) := by omega
  have hj3 : ((at0 + 3 : Nat) : Int) < (n : Int) := by omega
  have hk3 : (0 : Int) ≤ (at0 : Int) + 3 := by omega
  have hl3 : (at0 : Int) + 3 < (n : Int) := by omega
  have hm3 : ((at0 : Int) + 3).toNat = at0 + 3 := by omega
  have hw4 : IntKind.i64.wrap ((at0 : Int) + 4) = ((at0 + 4 : Nat) : Int) := by rw [IntKind.wrap_i64]; omega
  have hi4 : (0 : Int) ≤ ((at0 + 4 : Nat) : Int) := by omega
  have hj4 : ((at0 + 4 : Nat) : Int) < (n : Int) := by omega
  have hk4 : (0 : Int) ≤ (at0 : Int) + 4 := by omega
  have hl4 : (at0 : Int) + 4 < (n : Int) := by omega
  have hm4 : ((at0 : Int) + 4).toNat = at0 + 4 := by omega
  have hw5 : IntKind.i64.wrap ((at0 : Int) + 5) = ((at0 + 5 : Nat) : Int) := by rw [IntKind.wrap_i64]; omega
  have hi5 : (0 : Int) ≤ ((at0 + 5 : Nat) : Int) := by omega
  have hj5 : ((at0 + 5 : Nat) : Int) < (n : Int) := by omega
  have hk5 : (0 : Int) ≤ (at0 : Int) + 5 := by omega
  have hl5 : (at0 : Int) + 5 < (n : Int) := by omega
  have hm5 : ((at0 : Int) + 5).toNat = at0 + 5 := by omega
  have hw6 : IntKind.i64.wrap ((at0 : Int) + 6) = ((at0 + 6 : Nat) : Int) := by rw [IntKind.wrap_i64]; omega
  have hi6 : (0 : Int) ≤ ((at0 + 6 : Nat) : Int) := by omega
  have hj6 : ((at0 + 6 : Nat) : Int) < (n : Int) := by omega
  have hk6 : (0 : Int) ≤ (at0 : Int) + 6 := by omega
  have hl6 : (at0 : Int) + 6 < (n : Int) := by omega
  have hm6 : ((at0 : Int) + 6).toNat = at0 + 6 := by omega
  have hv2 : IntKind.i64.wrap z2 = z2 := by rw [IntKind.wrap_i64]; omega
  have hv4 : IntKind.i64.wrap z4 = z4 := by rw [IntKind.wrap_i64]; omega
  have hv5 : IntKind.i64.wrap z5 = z5 := by rw [IntKind.wrap_i64]; omega
  have hv6 : IntKind.i64.wrap z6 = z6 := by rw [IntKind.wrap_i64]; omega
  have hv7 : IntKind.i64.wrap (256 * z5) = 256 * z5 := by rw [IntKind.wrap_i64]; omega
  have hv8 : IntKind.i64.wrap (z4 + 256 * z5) = z4 + 256 * z5 := by rw [IntKind.wrap_i64]; omega
  conv => arg 2; whnf
  go_quiet (fail)
  exact HQ.out _ _ _ _ _ _ _ _ _ _ _ _ _ _ _ _ _ _ _ _ _ _ _ _ _ _ _ _ _ _ _ _ (by first | exact Below.refl _ _ | exact below_drewN (Below.refl _ _) _ | go_grown)
end Go.Proofs.YtjgncofhobhjdaaDoor
