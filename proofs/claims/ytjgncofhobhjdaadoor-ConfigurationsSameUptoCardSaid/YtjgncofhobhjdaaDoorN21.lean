/- The law reader of bytes, its head. -/
import Derived.Test.YtjgncofhobhjdaaDoorChecked
import Derived.Deep.RegionHeld3
import Derived.Deep.DrawnRows
import Derived.Deep.DeepCutAuto
import Derived.Deep.LoopGhost
import Derived.Outline
import Derived.Handy
import Derived.OwnWalk
import Derived.BigQuiet
import Derived.Deep.CutBlock
import Derived.Test.YtjgncofhobhjdaaDoorN4
import Derived.Test.YtjgncofhobhjdaaDoorN1
import Derived.Test.YtjgncofhobhjdaaDoorN3
set_option linter.unusedVariables false
set_option linter.unusedSimpArgs false
set_option linter.unusedSectionVars false
/- accepted: the code of its parts. Printed by gen_aa.py. -/
namespace Go.Proofs.YtjgncofhobhjdaaDoor
open Go.RowKit
attribute [local go_sem ↓] Go.wp_at_zero Go.wp_at_succ

noncomputable def code1a : Code := (Tryd.f20.body.bind (findR 1)).getD .skip
noncomputable def code7a : Code := (Tryd.f20.body.bind (findR 7)).getD .skip
noncomputable def code12a : Code := (Tryd.f20.body.bind (findR 12)).getD .skip
noncomputable def code16a : Code := (Tryd.f20.body.bind (findR 16)).getD .skip
noncomputable def code23a : Code := (Tryd.f20.body.bind (findR 23)).getD .skip
noncomputable def code25a : Code := (Tryd.f20.body.bind (findR 25)).getD .skip
noncomputable def code26a : Code := (Tryd.f20.body.bind (findR 26)).getD .skip
noncomputable def code28a : Code := (Tryd.f20.body.bind (findR 28)).getD .skip
end Go.Proofs.YtjgncofhobhjdaaDoor
/- accepted: the first nine bytes, part 1. Printed by gen_aa.py. -/
namespace Go.Proofs.YtjgncofhobhjdaaDoor
open Go.RowKit
attribute [local go_sem ↓] Go.wp_at_zero Go.wp_at_succ

set_option maxRecDepth 1000000 in
set_option maxHeartbeats 16000000 in
theorem acc_head1 {u1 u2 u3 u4 u5 u6 u7 u8 u9 u10 u11 u12 u13 u14 u15 u16 u17 u18 u19 u20 u21 u22 u23 u24 u25 u26 u27 u28 u29 u30 u31 u32 u33 u34 u35 u36 u37 u38 u39 u40 u41 u42 u43 u44 u45 u46 u47 u48 u49 u50 u51 u52 u53 u54 u55 u56 u57 u58 u59 u60 u61 u62 u63 u64 u65 u66 u67 u68 u69 u70 u71 u72 u73 u74 u75 u76 u77 u78 u79 u80 u81 u82 u83 u84 u85 u86 u87 u88 u89 u90 u91 u92 u93 u94 u95 u96 u97 u98 u99 u100 u101 u102 u103 u104 u105 u106 u107 u108 u109 u110 u111 u112 u113 u114 u115 u116 u117 u118 u119 u120 u121 u122 u123 u124 u125 u126 u127 u128 u129 u130 u131 u132 u133 u134 u135 u136 u137 u138 u139 u140 u141 u142 u143 u144 u145 u146 u147 u148 u149 u150 u151 u152 u153 u154 u155 u156 u157 u158 u159 u160 u161 u162 u163 u164 u165 u166 u167 u168 u169 u170 u171 u172 u173 u174 u175 u176 u177 u178 u179 u180 u181 u182 u183 u184 u185 u186 u187 u188 u189 u190 u191 u192 u193 u194 u195 u196 u197 u198 u199 u200 u201 u202 u203 u204 u205 u206 u207 u208 u209 u210 u211 u212 u213 u214 u215 u216 u217 u218 u219 u220 u221 u222 u223 u224 u225 u226 u227 u228 u229 u230 u231 u232 u233 u234 u235 u236 u237 u238 u239 u240 u241 u242 u243 u244 u245 u246 u247 u248 u249 u250 u251 u252 u253 u254 u255 u256 u257 u258 u259 u260 u261 u262 u263 u264 u265 u266 u267 u268 u269 u270 u271 u272 u273 u274 u275 u276 u277 u278 u279 u280 u281 u282 u283 u284 u285 u286 u287 u288 u289 u290 u291 u292 u293 u294 u295 u296 u297 u298 u299 u300 u301 u302 u303 u304 u305 u306 u307 u308 u309 u310 u311 u312 u313 u314 u315 u316 u317 u318 u319 u320 u321 u322 u323 u324 u325 u326 u327 u328 u329 u330 u331 u332 u333 u334 u335 u336 u337 u338 u339 u340 u341 u342 u343 u344 u345 u346 u347 u348 u349 u350 u351 u352 u353 : Value} {b off n c : Nat} {z0 z1 z2 z3 z4 z5 z7 z8 : Int} {wr : World} (hnc : n ≤ c) (hcm : c ≤ maxLen) (hb : 9 ≤ n → b < wr.heap.size) (x0' : 9 ≤ n → wr.cell? ⟨b, off, none⟩ = some (.int .u8 z0)) (x1' : 9 ≤ n → wr.cell? ⟨b, off + 1, none⟩ = some (.int .u8 z1)) (x2' : 9 ≤ n → wr.cell? ⟨b, off + 2, none⟩ = some (.int .u8 z2)) (x3' : 9 ≤ n → wr.cell? ⟨b, off + 3, none⟩ = some (.int .u8 z3)) (x4' : 9 ≤ n → wr.cell? ⟨b, off + 4, none⟩ = some (.int .u8 z4)) (x5' : 9 ≤ n → wr.cell? ⟨b, off + 5, none⟩ = some (.int .u8 z5)) (x7' : 9 ≤ n → wr.cell? ⟨b, off + 7, none⟩ = some (.int .u8 z7)) (x8' : 9 ≤ n → wr.cell? ⟨b, off + 8, none⟩ = some (.int .u8 z8)) (k0 : u8k z0) (k1 : u8k z1) (k2 : u8k z2) (k3 : u8k z3) (k4 : u8k z4) (k5 : u8k z5) (k7 : u8k z7) (k8 : u8k z8) (hor : (n < 9) ∨ (¬ z0 = 9) ∨ (¬ z1 = 2))
    (Q : Exit → Act → World → Prop) (hQ : ∀ (s14 s15 s16 s17 s18 s19 s20 s21 s22 s23 s24 s25 s26 s27 s28 s29 s30 s31 s32 s33 s34 s35 s36 s37 s38 s39 s40 s41 s42 s43 s44 s45 s46 s47 s48 s49 s50 s51 s52 s53 s54 s55 s56 s57 s58 s59 s60 s61 s62 s63 s64 s65 s66 s67 s68 s69 s70 s71 s72 s73 s74 s75 s76 s77 s78 s79 : Value) (w' : World), Kept wr w' → Q .normal ⟨#[.slice (some ⟨b, off, none⟩) n c, u1, u2, u3, u4, u5, u6, u7, u8, u9, u10, u11, u12, u13, s14, s15, s16, s17, s18, s19, s20, s21, s22, s23, s24, s25, s26, s27, s28, s29, s30, s31, s32, s33, s34, s35, s36, s37, s38, s39, s40, s41, s42, s43, s44, s45, s46, s47, s48, s49, s50, s51, s52, s53, s54, s55, s56, s57, s58, s59, s60, s61, s62, s63, s64, s65, s66, s67, s68, s69, s70, s71, s72, s73, s74, s75, s76, s77, s78, s79, .bool (decide (n < 9) || decide (¬ z0 = 9) || decide (¬ z1 = 2) || decide (¬ z2 + 256 * z3 = (n : Int)) || decide (z4 < 1) || decide (16 < z4) || decide (z5 < 1) || decide (z7 < 128) || decide (¬ z7 % 32 = 0) || decide (250 < z8)), u81, u82, u83, u84, u85, u86, u87, u88, u89, u90, u91, u92, u93, u94, u95, u96, u97, u98, u99, u100, u101, u102, u103, u104, u105, u106, u107, u108, u109, u110, u111, u112, u113, u114, u115, u116, u117, u118, u119, u120, u121, u122, u123, u124, u125, u126, u127, u128, u129, u130, u131, u132, u133, u134, u135, u136, u137, u138, u139, u140, u141, u142, u143, u144, u145, u146, u147, u148, u149, u150, u151, u152, u153, u154, u155, u156, u157, u158, u159, u160, u161, u162, u163, u164, u165, u166, u167, u168, u169, u170, u171, u172, u173, u174, u175, u176, u177, u178, u179, u180, u181, u182, u183, u184, u185, u186, u187, u188, u189, u190, u191, u192, u193, u194, u195, u196, u197, u198, u199, u200, u201, u202, u203, u204, u205, u206, u207, u208, u209, u210, u211, u212, u213, u214, u215, u216, u217, u218, u219, u220, u221, u222, u223, u224, u225, u226, u227, u228, u229, u230, u231, u232, u233, u234, u235, u236, u237, u238, u239, u240, u241, u242, u243, u244, u245, u246, u247, u248, u249, u250, u251, u252, u253, u254, u255, u256, u257, u258, u259, u260, u261, u262, u263, u264, u265, u266, u267, u268, u269, u270, u271, u272, u273, u274, u275, u276, u277, u278, u279, u280, u281, u282, u283, u284, u285, u286, u287, u288, u289, u290, u291, u292, u293, u294, u295, u296, u297, u298, u299, u300, u301, u302, u303, u304, u305, u306, u307, u308, u309, u310, u311, u312, u313, u314, u315, u316, u317, u318, u319, u320, u321, u322, u323, u324, u325, u326, u327, u328, u329, u330, u331, u332, u333, u334, u335, u336, u337, u338, u339, u340, u341, u342, u343, u344, u345, u346, u347, u348, u349, u350, u351, u352, u353], []⟩ w') :
    Code.wp Tryd.prog (headC code1a) Q ⟨#[.slice (some ⟨b, off, none⟩) n c, u1, u2, u3, u4, u5, u6, u7, u8, u9, u10, u11, u12, u13, u14, u15, u16, u17, u18, u19, u20, u21, u22, u23, u24, u25, u26, u27, u28, u29, u30, u31, u32, u33, u34, u35, u36, u37, u38, u39, u40, u41, u42, u43, u44, u45, u46, u47, u48, u49, u50, u51, u52, u53, u54, u55, u56, u57, u58, u59, u60, u61, u62, u63, u64, u65, u66, u67, u68, u69, u70, u71, u72, u73, u74, u75, u76, u77, u78, u79, u80, u81, u82, u83, u84, u85, u86, u87, u88, u89, u90, u91, u92, u93, u94, u95, u96, u97, u98, u99, u100, u101, u102, u103, u104, u105, u106, u107, u108, u109, u110, u111, u112, u113, u114, u115, u116, u117, u118, u119, u120, u121, u122, u123, u124, u125, u126, u127, u128, u129, u130, u131, u132, u133, u134, u135, u136, u137, u138, u139, u140, u141, u142, u143, u144, u145, u146, u147, u148, u149, u150, u151, u152, u153, u154, u155, u156, u157, u158, u159, u160, u161, u162, u163, u164, u165, u166, u167, u168, u169, u170, u171, u172, u173, u174, u175, u176, u177, u178, u179, u180, u181, u182, u183, u184, u185, u186, u187, u188, u189, u190, u191, u192, u193, u194, u195, u196, u197, u198, u199, u200, u201, u202, u203, u204, u205, u206, u207, u208, u209, u210, u211, u212, u213, u214, u215, u216, u217, u218, u219, u220, u221, u222, u223, u224, u225, u226, u227, u228, u229, u230, u231, u232, u233, u234, u235, u236, u237, u238, u239, u240, u241, u242, u243, u244, u245, u246, u247, u248, u249, u250, u251, u252, u253, u254, u255, u256, u257, u258, u259, u260, u261, u262, u263, u264, u265, u266, u267, u268, u269, u270, u271, u272, u273, u274, u275, u276, u277, u278, u279, u280, u281, u282, u283, u284, u285, u286, u287, u288, u289, u290, u291, u292, u293, u294, u295, u296, u297, u298, u299, u300, u301, u302, u303, u304, u305, u306, u307, u308, u309, u310, u311, u312, u313, u314, u315, u316, u317, u318, u319, u320, u321, u322, u323, u324, u325, u326, u327, u328, u329, u330, u331, u332, u333, u334, u335, u336, u337, u338, u339, u340, u341, u342, u343, u344, u345, u346, u347, u348, u349, u350, u351, u352, u353], []⟩ wr := by
  obtain ⟨B, hB⟩ : ∃ B, (decide (n < 9) || decide (¬ z0 = 9) || decide (¬ z1 = 2) || decide (¬ z2 + 256 * z3 = (n : Int)) || decide (z4 < 1) || decide (16 < z4) || decide (z5 < 1) || decide (z7 < 128) || decide (¬ z7 % 32 = 0) || decide (250 < z8)) = B := ⟨_, rfl⟩
  rw [hB] at hQ
  have HQ := hide hQ
  have HB := hide hB
  clear hQ hB
  unfold maxLen at hcm
  obtain ⟨k00, k01⟩ := k0
  obtain ⟨k10, k11⟩ := k1
  obtain ⟨k20, k21⟩ := k2
  obtain ⟨k30, k31⟩ := k3
  obtain ⟨k40, k41⟩ := k4
  obtain ⟨k50, k51⟩ := k5
  obtain ⟨k70, k71⟩ := k7
  obtain ⟨k80, k81⟩ := k8
  have hw2 : IntKind.i64.wrap z2 = z2 := by rw [IntKind.wrap_i64]; omega
  have hw3 : IntKind.i64.wrap z3 = z3 := by rw [IntKind.wrap_i64]; omega
  have hw4 : IntKind.i64.wrap (256 * z3) = 256 * z3 := by rw [IntKind.wrap_i64]; omega
  have hw5 : IntKind.i64.wrap (z2 + 256 * z3) = z2 + 256 * z3 := by rw [IntKind.wrap_i64]; omega
  have hw7 : z7.tmod 32 = z7 % 32 := Int.tmod_eq_emod_of_nonneg k70
  conv => arg 2; whnf
  simp only [List.append_eq, List.cons_append, List.nil_append]
  by_cases hlt : n < 9
  case pos =>
    have hlt2 : (n : Int) < 9 := by omega
    have hB : B = true := by rw [← HB.out]; simp [hlt]
    subst hB
    go_quiet (fail)
    exact HQ.out _ _ _ _ _ _ _ _ _ _ _ _ _ _ _ _ _ _ _ _ _ _ _ _ _ _ _ _ _ _ _ _ _ _ _ _ _ _ _ _ _ _ _ _ _ _ _ _ _ _ _ _ _ _ _ _ _ _ _ _ _ _ _ _ _ _ _ (by first | exact Below.refl _ _ | exact below_drewN (Below.refl _ _) _ | go_grown)
  case neg =>
  have hlt2 : ¬ (n : Int) < 9 := by omega
  have hn9 : 9 ≤ n := by omega
  have x0 := x0' hn9
  have x1 := x1' hn9
  have x2 := x2' hn9
  have x3 := x3' hn9
  have x4 := x4' hn9
  have x5 := x5' hn9
  have x7 := x7' hn9
  have x8 := x8' hn9
  have hbl := hb hn9
  clear x0' x1' x2' x3' x4' x5' x7' x8'
  have hx0 : (0 : Int) < (n : Int) := by omega
  have hx1 : (1 : Int) < (n : Int) := by omega
  have hx2 : (2 : Int) < (n : Int) := by omega
  have hx3 : (3 : Int) < (n : Int) := by omega
  have hx4 : (4 : Int) < (n : Int) := by omega
  have hx5 : (5 : Int) < (n : Int) := by omega
  have hx6 : (6 : Int) < (n : Int) := by omega
  have hx7 : (7 : Int) < (n : Int) := by omega
  have hx8 : (8 : Int) < (n : Int) := by omega
  have hxn : 0 < n := by omega
  by_cases h0 : ¬ z0 = 9
  case pos =>
    have h0e : (z0 == 9) = false := by simpa using h0
    have h0b : (z0 != 9) = true := by simpa using h0
    have hB : B = true := by rw [← HB.out]; simp [hlt, h0]
    subst hB
    go_quiet (fail)
    exact HQ.out _ _ _ _ _ _ _ _ _ _ _ _ _ _ _ _ _ _ _ _ _ _ _ _ _ _ _ _ _ _ _ _ _ _ _ _ _ _ _ _ _ _ _ _ _ _ _ _ _ _ _ _ _ _ _ _ _ _ _ _ _ _ _ _ _ _ _ (by first | exact Below.refl _ _ | exact below_drewN (Below.refl _ _) _ | go_grown)
  case neg =>
  have h0f : z0 = 9 := by omega
  have h0e : (z0 == 9) = true := by simpa using h0f
  have h0b : (z0 != 9) = false := by simpa using h0f
  by_cases h1 : ¬ z1 = 2
  case pos =>
    have h1e : (z1 == 2) = false := by simpa using h1
    have h1b : (z1 != 2) = true := by simpa using h1
    have hB : B = true := by rw [← HB.out]; simp [hlt, h0, h1]
    subst hB
    go_quiet (fail)
    exact HQ.out _ _ _ _ _ _ _ _ _ _ _ _ _ _ _ _ _ _ _ _ _ _ _ _ _ _ _ _ _ _ _ _ _ _ _ _ _ _ _ _ _ _ _ _ _ _ _ _ _ _ _ _ _ _ _ _ _ _ _ _ _ _ _ _ _ _ _ (by first | exact Below.refl _ _ | exact below_drewN (Below.refl _ _) _ | go_grown)
  case neg =>
  have h1f : z1 = 2 := by omega
  have h1e : (z1 == 2) = true := by simpa using h1f
  have h1b : (z1 != 2) = false := by simpa using h1f
  exact absurd hor (by simp only [not_or]; exact ⟨hlt, h0, h1⟩)
end Go.Proofs.YtjgncofhobhjdaaDoor
/- accepted: the first nine bytes, part 2. Printed by gen_aa.py. -/
namespace Go.Proofs.YtjgncofhobhjdaaDoor
open Go.RowKit
attribute [local go_sem ↓] Go.wp_at_zero Go.wp_at_succ

set_option maxRecDepth 1000000 in
set_option maxHeartbeats 16000000 in
theorem acc_head2 {u1 u2 u3 u4 u5 u6 u7 u8 u9 u10 u11 u12 u13 u14 u15 u16 u17 u18 u19 u20 u21 u22 u23 u24 u25 u26 u27 u28 u29 u30 u31 u32 u33 u34 u35 u36 u37 u38 u39 u40 u41 u42 u43 u44 u45 u46 u47 u48 u49 u50 u51 u52 u53 u54 u55 u56 u57 u58 u59 u60 u61 u62 u63 u64 u65 u66 u67 u68 u69 u70 u71 u72 u73 u74 u75 u76 u77 u78 u79 u80 u81 u82 u83 u84 u85 u86 u87 u88 u89 u90 u91 u92 u93 u94 u95 u96 u97 u98 u99 u100 u101 u102 u103 u104 u105 u106 u107 u108 u109 u110 u111 u112 u113 u114 u115 u116 u117 u118 u119 u120 u121 u122 u123 u124 u125 u126 u127 u128 u129 u130 u131 u132 u133 u134 u135 u136 u137 u138 u139 u140 u141 u142 u143 u144 u145 u146 u147 u148 u149 u150 u151 u152 u153 u154 u155 u156 u157 u158 u159 u160 u161 u162 u163 u164 u165 u166 u167 u168 u169 u170 u171 u172 u173 u174 u175 u176 u177 u178 u179 u180 u181 u182 u183 u184 u185 u186 u187 u188 u189 u190 u191 u192 u193 u194 u195 u196 u197 u198 u199 u200 u201 u202 u203 u204 u205 u206 u207 u208 u209 u210 u211 u212 u213 u214 u215 u216 u217 u218 u219 u220 u221 u222 u223 u224 u225 u226 u227 u228 u229 u230 u231 u232 u233 u234 u235 u236 u237 u238 u239 u240 u241 u242 u243 u244 u245 u246 u247 u248 u249 u250 u251 u252 u253 u254 u255 u256 u257 u258 u259 u260 u261 u262 u263 u264 u265 u266 u267 u268 u269 u270 u271 u272 u273 u274 u275 u276 u277 u278 u279 u280 u281 u282 u283 u284 u285 u286 u287 u288 u289 u290 u291 u292 u293 u294 u295 u296 u297 u298 u299 u300 u301 u302 u303 u304 u305 u306 u307 u308 u309 u310 u311 u312 u313 u314 u315 u316 u317 u318 u319 u320 u321 u322 u323 u324 u325 u326 u327 u328 u329 u330 u331 u332 u333 u334 u335 u336 u337 u338 u339 u340 u341 u342 u343 u344 u345 u346 u347 u348 u349 u350 u351 u352 u353 : Value} {b off n c : Nat} {z0 z1 z2 z3 z4 z5 z7 z8 : Int} {wr : World} (hnc : n ≤ c) (hcm : c ≤ maxLen) (hb : 9 ≤ n → b < wr.heap.size) (x0' : 9 ≤ n → wr.cell? ⟨b, off, none⟩ = some (.int .u8 z0)) (x1' : 9 ≤ n → wr.cell? ⟨b, off + 1, none⟩ = some (.int .u8 z1)) (x2' : 9 ≤ n → wr.cell? ⟨b, off + 2, none⟩ = some (.int .u8 z2)) (x3' : 9 ≤ n → wr.cell? ⟨b, off + 3, none⟩ = some (.int .u8 z3)) (x4' : 9 ≤ n → wr.cell? ⟨b, off + 4, none⟩ = some (.int .u8 z4)) (x5' : 9 ≤ n → wr.cell? ⟨b, off + 5, none⟩ = some (.int .u8 z5)) (x7' : 9 ≤ n → wr.cell? ⟨b, off + 7, none⟩ = some (.int .u8 z7)) (x8' : 9 ≤ n → wr.cell? ⟨b, off + 8, none⟩ = some (.int .u8 z8)) (k0 : u8k z0) (k1 : u8k z1) (k2 : u8k z2) (k3 : u8k z3) (k4 : u8k z4) (k5 : u8k z5) (k7 : u8k z7) (k8 : u8k z8) (hlt : ¬ (n < 9)) (h0 : ¬ (¬ z0 = 9)) (h1 : ¬ (¬ z1 = 2)) (hor : (¬ z2 + 256 * z3 = (n : Int)) ∨ (z4 < 1) ∨ (16 < z4))
    (Q : Exit → Act → World → Prop) (hQ : ∀ (s14 s15 s16 s17 s18 s19 s20 s21 s22 s23 s24 s25 s26 s27 s28 s29 s30 s31 s32 s33 s34 s35 s36 s37 s38 s39 s40 s41 s42 s43 s44 s45 s46 s47 s48 s49 s50 s51 s52 s53 s54 s55 s56 s57 s58 s59 s60 s61 s62 s63 s64 s65 s66 s67 s68 s69 s70 s71 s72 s73 s74 s75 s76 s77 s78 s79 : Value) (w' : World), Kept wr w' → Q .normal ⟨#[.slice (some ⟨b, off, none⟩) n c, u1, u2, u3, u4, u5, u6, u7, u8, u9, u10, u11, u12, u13, s14, s15, s16, s17, s18, s19, s20, s21, s22, s23, s24, s25, s26, s27, s28, s29, s30, s31, s32, s33, s34, s35, s36, s37, s38, s39, s40, s41, s42, s43, s44, s45, s46, s47, s48, s49, s50, s51, s52, s53, s54, s55, s56, s57, s58, s59, s60, s61, s62, s63, s64, s65, s66, s67, s68, s69, s70, s71, s72, s73, s74, s75, s76, s77, s78, s79, .bool (decide (n < 9) || decide (¬ z0 = 9) || decide (¬ z1 = 2) || decide (¬ z2 + 256 * z3 = (n : Int)) || decide (z4 < 1) || decide (16 < z4) || decide (z5 < 1) || decide (z7 < 128) || decide (¬ z7 % 32 = 0) || decide (250 < z8)), u81, u82, u83, u84, u85, u86, u87, u88, u89, u90, u91, u92, u93, u94, u95, u96, u97, u98, u99, u100, u101, u102, u103, u104, u105, u106, u107, u108, u109, u110, u111, u112, u113, u114, u115, u116, u117, u118, u119, u120, u121, u122, u123, u124, u125, u126, u127, u128, u129, u130, u131, u132, u133, u134, u135, u136, u137, u138, u139, u140, u141, u142, u143, u144, u145, u146, u147, u148, u149, u150, u151, u152, u153, u154, u155, u156, u157, u158, u159, u160, u161, u162, u163, u164, u165, u166, u167, u168, u169, u170, u171, u172, u173, u174, u175, u176, u177, u178, u179, u180, u181, u182, u183, u184, u185, u186, u187, u188, u189, u190, u191, u192, u193, u194, u195, u196, u197, u198, u199, u200, u201, u202, u203, u204, u205, u206, u207, u208, u209, u210, u211, u212, u213, u214, u215, u216, u217, u218, u219, u220, u221, u222, u223, u224, u225, u226, u227, u228, u229, u230, u231, u232, u233, u234, u235, u236, u237, u238, u239, u240, u241, u242, u243, u244, u245, u246, u247, u248, u249, u250, u251, u252, u253, u254, u255, u256, u257, u258, u259, u260, u261, u262, u263, u264, u265, u266, u267, u268, u269, u270, u271, u272, u273, u274, u275, u276, u277, u278, u279, u280, u281, u282, u283, u284, u285, u286, u287, u288, u289, u290, u291, u292, u293, u294, u295, u296, u297, u298, u299, u300, u301, u302, u303, u304, u305, u306, u307, u308, u309, u310, u311, u312, u313, u314, u315, u316, u317, u318, u319, u320, u321, u322, u323, u324, u325, u326, u327, u328, u329, u330, u331, u332, u333, u334, u335, u336, u337, u338, u339, u340, u341, u342, u343, u344, u345, u346, u347, u348, u349, u350, u351, u352, u353], []⟩ w') :
    Code.wp Tryd.prog (headC code1a) Q ⟨#[.slice (some ⟨b, off, none⟩) n c, u1, u2, u3, u4, u5, u6, u7, u8, u9, u10, u11, u12, u13, u14, u15, u16, u17, u18, u19, u20, u21, u22, u23, u24, u25, u26, u27, u28, u29, u30, u31, u32, u33, u34, u35, u36, u37, u38, u39, u40, u41, u42, u43, u44, u45, u46, u47, u48, u49, u50, u51, u52, u53, u54, u55, u56, u57, u58, u59, u60, u61, u62, u63, u64, u65, u66, u67, u68, u69, u70, u71, u72, u73, u74, u75, u76, u77, u78, u79, u80, u81, u82, u83, u84, u85, u86, u87, u88, u89, u90, u91, u92, u93, u94, u95, u96, u97, u98, u99, u100, u101, u102, u103, u104, u105, u106, u107, u108, u109, u110, u111, u112, u113, u114, u115, u116, u117, u118, u119, u120, u121, u122, u123, u124, u125, u126, u127, u128, u129, u130, u131, u132, u133, u134, u135, u136, u137, u138, u139, u140, u141, u142, u143, u144, u145, u146, u147, u148, u149, u150, u151, u152, u153, u154, u155, u156, u157, u158, u159, u160, u161, u162, u163, u164, u165, u166, u167, u168, u169, u170, u171, u172, u173, u174, u175, u176, u177, u178, u179, u180, u181, u182, u183, u184, u185, u186, u187, u188, u189, u190, u191, u192, u193, u194, u195, u196, u197, u198, u199, u200, u201, u202, u203, u204, u205, u206, u207, u208, u209, u210, u211, u212, u213, u214, u215, u216, u217, u218, u219, u220, u221, u222, u223, u224, u225, u226, u227, u228, u229, u230, u231, u232, u233, u234, u235, u236, u237, u238, u239, u240, u241, u242, u243, u244, u245, u246, u247, u248, u249, u250, u251, u252, u253, u254, u255, u256, u257, u258, u259, u260, u261, u262, u263, u264, u265, u266, u267, u268, u269, u270, u271, u272, u273, u274, u275, u276, u277, u278, u279, u280, u281, u282, u283, u284, u285, u286, u287, u288, u289, u290, u291, u292, u293, u294, u295, u296, u297, u298, u299, u300, u301, u302, u303, u304, u305, u306, u307, u308, u309, u310, u311, u312, u313, u314, u315, u316, u317, u318, u319, u320, u321, u322, u323, u324, u325, u326, u327, u328, u329, u330, u331, u332, u333, u334, u335, u336, u337, u338, u339, u340, u341, u342, u343, u344, u345, u346, u347, u348, u349, u350, u351, u352, u353], []⟩ wr := by
  obtain ⟨B, hB⟩ : ∃ B, (decide (n < 9) || decide (¬ z0 = 9) || decide (¬ z1 = 2) || decide (¬ z2 + 256 * z3 = (n : Int)) || decide (z4 < 1) || decide (16 < z4) || decide (z5 < 1) || decide (z7 < 128) || decide (¬ z7 % 32 = 0) || decide (250 < z8)) = B := ⟨_, rfl⟩
  rw [hB] at hQ
  have HQ := hide hQ
  have HB := hide hB
  clear hQ hB
  unfold maxLen at hcm
  obtain ⟨k00, k01⟩ := k0
  obtain ⟨k10, k11⟩ := k1
  obtain ⟨k20, k21⟩ := k2
  obtain ⟨k30, k31⟩ := k3
  obtain ⟨k40, k41⟩ := k4
  obtain ⟨k50, k51⟩ := k5
  obtain ⟨k70, k71⟩ := k7
  obtain ⟨k80, k81⟩ := k8
  have hw2 : IntKind.i64.wrap z2 = z2 := by rw [IntKind.wrap_i64]; omega
  have hw3 : IntKind.i64.wrap z3 = z3 := by rw [IntKind.wrap_i64]; omega
  have hw4 : IntKind.i64.wrap (256 * z3) = 256 * z3 := by rw [IntKind.wrap_i64]; omega
  have hw5 : IntKind.i64.wrap (z2 + 256 * z3) = z2 + 256 * z3 := by rw [IntKind.wrap_i64]; omega
  have hw7 : z7.tmod 32 = z7 % 32 := Int.tmod_eq_emod_of_nonneg k70
  have hlt2 : ¬ (n : Int) < 9 := by omega
  have hn9 : 9 ≤ n := by omega
  have x0 := x0' hn9
  have x1 := x1' hn9
  have x2 := x2' hn9
  have x3 := x3' hn9
  have x4 := x4' hn9
  have x5 := x5' hn9
  have x7 := x7' hn9
  have x8 := x8' hn9
  have hbl := hb hn9
  clear x0' x1' x2' x3' x4' x5' x7' x8'
  have hx0 : (0 : Int) < (n : Int) := by omega
  have hx1 : (1 : Int) < (n : Int) := by omega
  have hx2 : (2 : Int) < (n : Int) := by omega
  have hx3 : (3 : Int) < (n : Int) := by omega
  have hx4 : (4 : Int) < (n : Int) := by omega
  have hx5 : (5 : Int) < (n : Int) := by omega
  have hx6 : (6 : Int) < (n : Int) := by omega
  have hx7 : (7 : Int) < (n : Int) := by omega
  have hx8 : (8 : Int) < (n : Int) := by omega
  have hxn : 0 < n := by omega
  have h0f : z0 = 9 := by omega
  have h0e : (z0 == 9) = true := by simpa using h0f
  have h0b : (z0 != 9) = false := by simpa using h0f
  have h1f : z1 = 2 := by omega
  have h1e : (z1 == 2) = true := by simpa using h1f
  have h1b : (z1 != 2) = false := by simpa using h1f
  conv => arg 2; whnf
  simp only [List.append_eq, List.cons_append, List.nil_append]
  by_cases h23 : ¬ z2 + 256 * z3 = (n : Int)
  case pos =>
    have h23e : (z2 + 256 * z3 == (n : Int)) = false := by simpa using h23
    have h23b : (z2 + 256 * z3 != (n : Int)) = true := by simpa using h23
    have hB : B = true := by rw [← HB.out]; simp [hlt, h0, h1, h23]
    subst hB
    go_quiet (fail)
    exact HQ.out _ _ _ _ _ _ _ _ _ _ _ _ _ _ _ _ _ _ _ _ _ _ _ _ _ _ _ _ _ _ _ _ _ _ _ _ _ _ _ _ _ _ _ _ _ _ _ _ _ _ _ _ _ _ _ _ _ _ _ _ _ _ _ _ _ _ _ (by first | exact Below.refl _ _ | exact below_drewN (Below.refl _ _) _ | go_grown)
  case neg =>
  have h23f : z2 + 256 * z3 = (n : Int) := by omega
  have h23e : (z2 + 256 * z3 == (n : Int)) = true := by simpa using h23f
  have h23b : (z2 + 256 * z3 != (n : Int)) = false := by simpa using h23f
  by_cases h4 : z4 < 1
  case pos =>
    have hB : B = true := by rw [← HB.out]; simp [hlt, h0, h1, h23, h4]
    subst hB
    go_quiet (fail)
    exact HQ.out _ _ _ _ _ _ _ _ _ _ _ _ _ _ _ _ _ _ _ _ _ _ _ _ _ _ _ _ _ _ _ _ _ _ _ _ _ _ _ _ _ _ _ _ _ _ _ _ _ _ _ _ _ _ _ _ _ _ _ _ _ _ _ _ _ _ _ (by first | exact Below.refl _ _ | exact below_drewN (Below.refl _ _) _ | go_grown)
  case neg =>
  by_cases h4b : 16 < z4
  case pos =>
    have hB : B = true := by rw [← HB.out]; simp [hlt, h0, h1, h23, h4, h4b]
    subst hB
    go_quiet (fail)
    exact HQ.out _ _ _ _ _ _ _ _ _ _ _ _ _ _ _ _ _ _ _ _ _ _ _ _ _ _ _ _ _ _ _ _ _ _ _ _ _ _ _ _ _ _ _ _ _ _ _ _ _ _ _ _ _ _ _ _ _ _ _ _ _ _ _ _ _ _ _ (by first | exact Below.refl _ _ | exact below_drewN (Below.refl _ _) _ | go_grown)
  case neg =>
  exact absurd hor (by simp only [not_or]; exact ⟨h23, h4, h4b⟩)
end Go.Proofs.YtjgncofhobhjdaaDoor
/- accepted: the first nine bytes, part 3. Printed by gen_aa.py. -/
namespace Go.Proofs.YtjgncofhobhjdaaDoor
open Go.RowKit
attribute [local go_sem ↓] Go.wp_at_zero Go.wp_at_succ

set_option maxRecDepth 1000000 in
set_option maxHeartbeats 16000000 in
theorem acc_head3 {u1 u2 u3 u4 u5 u6 u7 u8 u9 u10 u11 u12 u13 u14 u15 u16 u17 u18 u19 u20 u21 u22 u23 u24 u25 u26 u27 u28 u29 u30 u31 u32 u33 u34 u35 u36 u37 u38 u39 u40 u41 u42 u43 u44 u45 u46 u47 u48 u49 u50 u51 u52 u53 u54 u55 u56 u57 u58 u59 u60 u61 u62 u63 u64 u65 u66 u67 u68 u69 u70 u71 u72 u73 u74 u75 u76 u77 u78 u79 u80 u81 u82 u83 u84 u85 u86 u87 u88 u89 u90 u91 u92 u93 u94 u95 u96 u97 u98 u99 u100 u101 u102 u103 u104 u105 u106 u107 u108 u109 u110 u111 u112 u113 u114 u115 u116 u117 u118 u119 u120 u121 u122 u123 u124 u125 u126 u127 u128 u129 u130 u131 u132 u133 u134 u135 u136 u137 u138 u139 u140 u141 u142 u143 u144 u145 u146 u147 u148 u149 u150 u151 u152 u153 u154 u155 u156 u157 u158 u159 u160 u161 u162 u163 u164 u165 u166 u167 u168 u169 u170 u171 u172 u173 u174 u175 u176 u177 u178 u179 u180 u181 u182 u183 u184 u185 u186 u187 u188 u189 u190 u191 u192 u193 u194 u195 u196 u197 u198 u199 u200 u201 u202 u203 u204 u205 u206 u207 u208 u209 u210 u211 u212 u213 u214 u215 u216 u217 u218 u219 u220 u221 u222 u223 u224 u225 u226 u227 u228 u229 u230 u231 u232 u233 u234 u235 u236 u237 u238 u239 u240 u241 u242 u243 u244 u245 u246 u247 u248 u249 u250 u251 u252 u253 u254 u255 u256 u257 u258 u259 u260 u261 u262 u263 u264 u265 u266 u267 u268 u269 u270 u271 u272 u273 u274 u275 u276 u277 u278 u279 u280 u281 u282 u283 u284 u285 u286 u287 u288 u289 u290 u291 u292 u293 u294 u295 u296 u297 u298 u299 u300 u301 u302 u303 u304 u305 u306 u307 u308 u309 u310 u311 u312 u313 u314 u315 u316 u317 u318 u319 u320 u321 u322 u323 u324 u325 u326 u327 u328 u329 u330 u331 u332 u333 u334 u335 u336 u337 u338 u339 u340 u341 u342 u343 u344 u345 u346 u347 u348 u349 u350 u351 u352 u353 : Value} {b off n c : Nat} {z0 z1 z2 z3 z4 z5 z7 z8 : Int} {wr : World} (hnc : n ≤ c) (hcm : c ≤ maxLen) (hb : 9 ≤ n → b < wr.heap.size) (x0' : 9 ≤ n → wr.cell? ⟨b, off, none⟩ = some (.int .u8 z0)) (x1' : 9 ≤ n → wr.cell? ⟨b, off + 1, none⟩ = some (.int .u8 z1)) (x2' : 9 ≤ n → wr.cell? ⟨b, off + 2, none⟩ = some (.int .u8 z2)) (x3' : 9 ≤ n → wr.cell? ⟨b, off + 3, none⟩ = some (.int .u8 z3)) (x4' : 9 ≤ n → wr.cell? ⟨b, off + 4, none⟩ = some (.int .u8 z4)) (x5' : 9 ≤ n → wr.cell? ⟨b, off + 5, none⟩ = some (.int .u8 z5)) (x7' : 9 ≤ n → wr.cell? ⟨b, off + 7, none⟩ = some (.int .u8 z7)) (x8' : 9 ≤ n → wr.cell? ⟨b, off + 8, none⟩ = some (.int .u8 z8)) (k0 : u8k z0) (k1 : u8k z1) (k2 : u8k z2) (k3 : u8k z3) (k4 : u8k z4) (k5 : u8k z5) (k7 : u8k z7) (k8 : u8k z8) (hlt : ¬ (n < 9)) (h0 : ¬ (¬ z0 = 9)) (h1 : ¬ (¬ z1 = 2)) (h23 : ¬ (¬ z2 + 256 * z3 = (n : Int))) (h4 : ¬ (z4 < 1)) (h4b : ¬ (16 < z4))
    (Q : Exit → Act → World → Prop) (hQ : ∀ (s14 s15 s16 s17 s18 s19 s20 s21 s22 s23 s24 s25 s26 s27 s28 s29 s30 s31 s32 s33 s34 s35 s36 s37 s38 s39 s40 s41 s42 s43 s44 s45 s46 s47 s48 s49 s50 s51 s52 s53 s54 s55 s56 s57 s58 s59 s60 s61 s62 s63 s64 s65 s66 s67 s68 s69 s70 s71 s72 s73 s74 s75 s76 s77 s78 s79 : Value) (w' : World), Kept wr w' → Q .normal ⟨#[.slice (some ⟨b, off, none⟩) n c, u1, u2, u3, u4, u5, u6, u7, u8, u9, u10, u11, u12, u13, s14, s15, s16, s17, s18, s19, s20, s21, s22, s23, s24, s25, s26, s27, s28, s29, s30, s31, s32, s33, s34, s35, s36, s37, s38, s39, s40, s41, s42, s43, s44, s45, s46, s47, s48, s49, s50, s51, s52, s53, s54, s55, s56, s57, s58, s59, s60, s61, s62, s63, s64, s65, s66, s67, s68, s69, s70, s71, s72, s73, s74, s75, s76, s77, s78, s79, .bool (decide (n < 9) || decide (¬ z0 = 9) || decide (¬ z1 = 2) || decide (¬ z2 + 256 * z3 = (n : Int)) || decide (z4 < 1) || decide (16 < z4) || decide (z5 < 1) || decide (z7 < 128) || decide (¬ z7 % 32 = 0) || decide (250 < z8)), u81, u82, u83, u84, u85, u86, u87, u88, u89, u90, u91, u92, u93, u94, u95, u96, u97, u98, u99, u100, u101, u102, u103, u104, u105, u106, u107, u108, u109, u110, u111, u112, u113, u114, u115, u116, u117, u118, u119, u120, u121, u122, u123, u124, u125, u126, u127, u128, u129, u130, u131, u132, u133, u134, u135, u136, u137, u138, u139, u140, u141, u142, u143, u144, u145, u146, u147, u148, u149, u150, u151, u152, u153, u154, u155, u156, u157, u158, u159, u160, u161, u162, u163, u164, u165, u166, u167, u168, u169, u170, u171, u172, u173, u174, u175, u176, u177, u178, u179, u180, u181, u182, u183, u184, u185, u186, u187, u188, u189, u190, u191, u192, u193, u194, u195, u196, u197, u198, u199, u200, u201, u202, u203, u204, u205, u206, u207, u208, u209, u210, u211, u212, u213, u214, u215, u216, u217, u218, u219, u220, u221, u222, u223, u224, u225, u226, u227, u228, u229, u230, u231, u232, u233, u234, u235, u236, u237, u238, u239, u240, u241, u242, u243, u244, u245, u246, u247, u248, u249, u250, u251, u252, u253, u254, u255, u256, u257, u258, u259, u260, u261, u262, u263, u264, u265, u266, u267, u268, u269, u270, u271, u272, u273, u274, u275, u276, u277, u278, u279, u280, u281, u282, u283, u284, u285, u286, u287, u288, u289, u290, u291, u292, u293, u294, u295, u296, u297, u298, u299, u300, u301, u302, u303, u304, u305, u306, u307, u308, u309, u310, u311, u312, u313, u314, u315, u316, u317, u318, u319, u320, u321, u322, u323, u324, u325, u326, u327, u328, u329, u330, u331, u332, u333, u334, u335, u336, u337, u338, u339, u340, u341, u342, u343, u344, u345, u346, u347, u348, u349, u350, u351, u352, u353], []⟩ w') :
    Code.wp Tryd.prog (headC code1a) Q ⟨#[.slice (some ⟨b, off, none⟩) n c, u1, u2, u3, u4, u5, u6, u7, u8, u9, u10, u11, u12, u13, u14, u15, u16, u17, u18, u19, u20, u21, u22, u23, u24, u25, u26, u27, u28, u29, u30, u31, u32, u33, u34, u35, u36, u37, u38, u39, u40, u41, u42, u43, u44, u45, u46, u47, u48, u49, u50, u51, u52, u53, u54, u55, u56, u57, u58, u59, u60, u61, u62, u63, u64, u65, u66, u67, u68, u69, u70, u71, u72, u73, u74, u75, u76, u77, u78, u79, u80, u81, u82, u83, u84, u85, u86, u87, u88, u89, u90, u91, u92, u93, u94, u95, u96, u97, u98, u99, u100, u101, u102, u103, u104, u105, u106, u107, u108, u109, u110, u111, u112, u113, u114, u115, u116, u117, u118, u119, u120, u121, u122, u123, u124, u125, u126, u127, u128, u129, u130, u131, u132, u133, u134, u135, u136, u137, u138, u139, u140, u141, u142, u143, u144, u145, u146, u147, u148, u149, u150, u151, u152, u153, u154, u155, u156, u157, u158, u159, u160, u161, u162, u163, u164, u165, u166, u167, u168, u169, u170, u171, u172, u173, u174, u175, u176, u177, u178, u179, u180, u181, u182, u183, u184, u185, u186, u187, u188, u189, u190, u191, u192, u193, u194, u195, u196, u197, u198, u199, u200, u201, u202, u203, u204, u205, u206, u207, u208, u209, u210, u211, u212, u213, u214, u215, u216, u217, u218, u219, u220, u221, u222, u223, u224, u225, u226, u227, u228, u229, u230, u231, u232, u233, u234, u235, u236, u237, u238, u239, u240, u241, u242, u243, u244, u245, u246, u247, u248, u249, u250, u251, u252, u253, u254, u255, u256, u257, u258, u259, u260, u261, u262, u263, u264, u265, u266, u267, u268, u269, u270, u271, u272, u273, u274, u275, u276, u277, u278, u279, u280, u281, u282, u283, u284, u285, u286, u287, u288, u289, u290, u291, u292, u293, u294, u295, u296, u297, u298, u299, u300, u301, u302, u303, u304, u305, u306, u307, u308, u309, u310, u311, u312, u313, u314, u315, u316, u317, u318, u319, u320, u321, u322, u323, u324, u325, u326, u327, u328, u329, u330, u331, u332, u333, u334, u335, u336, u337, u338, u339, u340, u341, u342, u343, u344, u345, u346, u347, u348, u349, u350, u351, u352, u353], []⟩ wr := by
  obtain ⟨B, hB⟩ : ∃ B, (decide (n < 9) || decide (¬ z0 = 9) || decide (¬ z1 = 2) || decide (¬ z2 + 256 * z3 = (n : Int)) || decide (z4 < 1) || decide (16 < z4) || decide (z5 < 1) || decide (z7 < 128) || decide (¬ z7 % 32 = 0) || decide (250 < z8)) = B := ⟨_, rfl⟩
  rw [hB] at hQ
  have HQ := hide hQ
  have HB := hide hB
  clear hQ hB
  unfold maxLen at hcm
  obtain ⟨k00, k01⟩ := k0
  obtain ⟨k10, k11⟩ := k1
  obtain ⟨k20, k21⟩ := k2
  obtain ⟨k30, k31⟩ := k3
  obtain ⟨k40, k41⟩ := k4
  obtain ⟨k50, k51⟩ := k5
  obtain ⟨k70, k71⟩ := k7
  obtain ⟨k80, k81⟩ := k8
  have hw2 : IntKind.i64.wrap z2 = z2 := by rw [IntKind.wrap_i64]; omega
  have hw3 : IntKind.i64.wrap z3 = z3 := by rw [IntKind.wrap_i64]; omega
  have hw4 : IntKind.i64.wrap (256 * z3) = 256 * z3 := by rw [IntKind.wrap_i64]; omega
  have hw5 : IntKind.i64.wrap (z2 + 256 * z3) = z2 + 256 * z3 := by rw [IntKind.wrap_i64]; omega
  have hw7 : z7.tmod 32 = z7 % 32 := Int.tmod_eq_emod_of_nonneg k70
  have hlt2 : ¬ (n : Int) < 9 := by omega
  have hn9 : 9 ≤ n := by omega
  have x0 := x0' hn9
  have x1 := x1' hn9
  have x2 := x2' hn9
  have x3 := x3' hn9
  have x4 := x4' hn9
  have x5 := x5' hn9
  have x7 := x7' hn9
  have x8 := x8' hn9
  have hbl := hb hn9
  clear x0' x1' x2' x3' x4' x5' x7' x8'
  have hx0 : (0 : Int) < (n : Int) := by omega
  have hx1 : (1 : Int) < (n : Int) := by omega
  have hx2 : (2 : Int) < (n : Int) := by omega
  have hx3 : (3 : Int) < (n : Int) := by omega
  have hx4 : (4 : Int) < (n : Int) := by omega
  have hx5 : (5 : Int) < (n : Int) := by omega
  have hx6 : (6 : Int) < (n : Int) := by omega
  have hx7 : (7 : Int) < (n : Int) := by omega
  have hx8 : (8 : Int) < (n : Int) := by omega
  have hxn : 0 < n := by omega
  have h0f : z0 = 9 := by omega
  have h0e : (z0 == 9) = true := by simpa using h0f
  have h0b : (z0 != 9) = false := by simpa using h0f
  have h1f : z1 = 2 := by omega
  have h1e : (z1 == 2) = true := by simpa using h1f
  have h1b : (z1 != 2) = false := by simpa using h1f
  have h23f : z2 + 256 * z3 = (n : Int) := by omega
  have h23e : (z2 + 256 * z3 == (n : Int)) = true := by simpa using h23f
  have h23b : (z2 + 256 * z3 != (n : Int)) = false := by simpa using h23f
  conv => arg 2; whnf
  simp only [List.append_eq, List.cons_append, List.nil_append]
  by_cases h5 : z5 < 1
  case pos =>
    have hB : B = true := by rw [← HB.out]; simp [hlt, h0, h1, h23, h4, h4b, h5]
    subst hB
    go_quiet (fail)
    exact HQ.out _ _ _ _ _ _ _ _ _ _ _ _ _ _ _ _ _ _ _ _ _ _ _ _ _ _ _ _ _ _ _ _ _ _ _ _ _ _ _ _ _ _ _ _ _ _ _ _ _ _ _ _ _ _ _ _ _ _ _ _ _ _ _ _ _ _ _ (by first | exact Below.refl _ _ | exact below_drewN (Below.refl _ _) _ | go_grown)
  case neg =>
  by_cases h7 : z7 < 128
  case pos =>
    have hB : B = true := by rw [← HB.out]; simp [hlt, h0, h1, h23, h4, h4b, h5, h7]
    subst hB
    go_quiet (fail)
    exact HQ.out _ _ _ _ _ _ _ _ _ _ _ _ _ _ _ _ _ _ _ _ _ _ _ _ _ _ _ _ _ _ _ _ _ _ _ _ _ _ _ _ _ _ _ _ _ _ _ _ _ _ _ _ _ _ _ _ _ _ _ _ _ _ _ _ _ _ _ (by first | exact Below.refl _ _ | exact below_drewN (Below.refl _ _) _ | go_grown)
  case neg =>
  by_cases h7b : ¬ z7 % 32 = 0
  case pos =>
    have h7be : (z7 % 32 == 0) = false := by simpa using h7b
    have h7bb : (z7 % 32 != 0) = true := by simpa using h7b
    have hB : B = true := by rw [← HB.out]; simp [hlt, h0, h1, h23, h4, h4b, h5, h7, h7b]
    subst hB
    go_quiet (fail)
    exact HQ.out _ _ _ _ _ _ _ _ _ _ _ _ _ _ _ _ _ _ _ _ _ _ _ _ _ _ _ _ _ _ _ _ _ _ _ _ _ _ _ _ _ _ _ _ _ _ _ _ _ _ _ _ _ _ _ _ _ _ _ _ _ _ _ _ _ _ _ (by first | exact Below.refl _ _ | exact below_drewN (Below.refl _ _) _ | go_grown)
  case neg =>
  have h7bf : z7 % 32 = 0 := by omega
  have h7be : (z7 % 32 == 0) = true := by simpa using h7bf
  have h7bb : (z7 % 32 != 0) = false := by simpa using h7bf
  by_cases h8 : 250 < z8
  case pos =>
    have hB : B = true := by rw [← HB.out]; simp [hlt, h0, h1, h23, h4, h4b, h5, h7, h7b, h8]
    subst hB
    go_quiet (fail)
    exact HQ.out _ _ _ _ _ _ _ _ _ _ _ _ _ _ _ _ _ _ _ _ _ _ _ _ _ _ _ _ _ _ _ _ _ _ _ _ _ _ _ _ _ _ _ _ _ _ _ _ _ _ _ _ _ _ _ _ _ _ _ _ _ _ _ _ _ _ _ (by first | exact Below.refl _ _ | exact below_drewN (Below.refl _ _) _ | go_grown)
  case neg =>
  have hB : B = false := by rw [← HB.out]; simp [hlt, h0, h1, h23, h4, h4b, h5, h7, h7b, h8]
  subst hB
  go_quiet (fail)
  exact HQ.out _ _ _ _ _ _ _ _ _ _ _ _ _ _ _ _ _ _ _ _ _ _ _ _ _ _ _ _ _ _ _ _ _ _ _ _ _ _ _ _ _ _ _ _ _ _ _ _ _ _ _ _ _ _ _ _ _ _ _ _ _ _ _ _ _ _ _ (by first | exact Below.refl _ _ | exact below_drewN (Below.refl _ _) _ | go_grown)
end Go.Proofs.YtjgncofhobhjdaaDoor
/- accepted: the first nine bytes. Printed by gen_aa.py. -/
namespace Go.Proofs.YtjgncofhobhjdaaDoor
open Go.RowKit
attribute [local go_sem ↓] Go.wp_at_zero Go.wp_at_succ

set_option maxRecDepth 1000000 in
set_option maxHeartbeats 16000000 in
theorem acc_head {u1 u2 u3 u4 u5 u6 u7 u8 u9 u10 u11 u12 u13 u14 u15 u16 u17 u18 u19 u20 u21 u22 u23 u24 u25 u26 u27 u28 u29 u30 u31 u32 u33 u34 u35 u36 u37 u38 u39 u40 u41 u42 u43 u44 u45 u46 u47 u48 u49 u50 u51 u52 u53 u54 u55 u56 u57 u58 u59 u60 u61 u62 u63 u64 u65 u66 u67 u68 u69 u70 u71 u72 u73 u74 u75 u76 u77 u78 u79 u80 u81 u82 u83 u84 u85 u86 u87 u88 u89 u90 u91 u92 u93 u94 u95 u96 u97 u98 u99 u100 u101 u102 u103 u104 u105 u106 u107 u108 u109 u110 u111 u112 u113 u114 u115 u116 u117 u118 u119 u120 u121 u122 u123 u124 u125 u126 u127 u128 u129 u130 u131 u132 u133 u134 u135 u136 u137 u138 u139 u140 u141 u142 u143 u144 u145 u146 u147 u148 u149 u150 u151 u152 u153 u154 u155 u156 u157 u158 u159 u160 u161 u162 u163 u164 u165 u166 u167 u168 u169 u170 u171 u172 u173 u174 u175 u176 u177 u178 u179 u180 u181 u182 u183 u184 u185 u186 u187 u188 u189 u190 u191 u192 u193 u194 u195 u196 u197 u198 u199 u200 u201 u202 u203 u204 u205 u206 u207 u208 u209 u210 u211 u212 u213 u214 u215 u216 u217 u218 u219 u220 u221 u222 u223 u224 u225 u226 u227 u228 u229 u230 u231 u232 u233 u234 u235 u236 u237 u238 u239 u240 u241 u242 u243 u244 u245 u246 u247 u248 u249 u250 u251 u252 u253 u254 u255 u256 u257 u258 u259 u260 u261 u262 u263 u264 u265 u266 u267 u268 u269 u270 u271 u272 u273 u274 u275 u276 u277 u278 u279 u280 u281 u282 u283 u284 u285 u286 u287 u288 u289 u290 u291 u292 u293 u294 u295 u296 u297 u298 u299 u300 u301 u302 u303 u304 u305 u306 u307 u308 u309 u310 u311 u312 u313 u314 u315 u316 u317 u318 u319 u320 u321 u322 u323 u324 u325 u326 u327 u328 u329 u330 u331 u332 u333 u334 u335 u336 u337 u338 u339 u340 u341 u342 u343 u344 u345 u346 u347 u348 u349 u350 u351 u352 u353 : Value} {b off n c : Nat} {z0 z1 z2 z3 z4 z5 z7 z8 : Int} {wr : World} (hnc : n ≤ c) (hcm : c ≤ maxLen) (hb : 9 ≤ n → b < wr.heap.size) (x0' : 9 ≤ n → wr.cell? ⟨b, off, none⟩ = some (.int .u8 z0)) (x1' : 9 ≤ n → wr.cell? ⟨b, off + 1, none⟩ = some (.int .u8 z1)) (x2' : 9 ≤ n → wr.cell? ⟨b, off + 2, none⟩ = some (.int .u8 z2)) (x3' : 9 ≤ n → wr.cell? ⟨b, off + 3, none⟩ = some (.int .u8 z3)) (x4' : 9 ≤ n → wr.cell? ⟨b, off + 4, none⟩ = some (.int .u8 z4)) (x5' : 9 ≤ n → wr.cell? ⟨b, off + 5, none⟩ = some (.int .u8 z5)) (x7' : 9 ≤ n → wr.cell? ⟨b, off + 7, none⟩ = some (.int .u8 z7)) (x8' : 9 ≤ n → wr.cell? ⟨b, off + 8, none⟩ = some (.int .u8 z8)) (k0 : u8k z0) (k1 : u8k z1) (k2 : u8k z2) (k3 : u8k z3) (k4 : u8k z4) (k5 : u8k z5) (k7 : u8k z7) (k8 : u8k z8)
    (Q : Exit → Act → World → Prop) (hQ : ∀ (s14 s15 s16 s17 s18 s19 s20 s21 s22 s23 s24 s25 s26 s27 s28 s29 s30 s31 s32 s33 s34 s35 s36 s37 s38 s39 s40 s41 s42 s43 s44 s45 s46 s47 s48 s49 s50 s51 s52 s53 s54 s55 s56 s57 s58 s59 s60 s61 s62 s63 s64 s65 s66 s67 s68 s69 s70 s71 s72 s73 s74 s75 s76 s77 s78 s79 : Value) (w' : World), Kept wr w' → Q .normal ⟨#[.slice (some ⟨b, off, none⟩) n c, u1, u2, u3, u4, u5, u6, u7, u8, u9, u10, u11, u12, u13, s14, s15, s16, s17, s18, s19, s20, s21, s22, s23, s24, s25, s26, s27, s28, s29, s30, s31, s32, s33, s34, s35, s36, s37, s38, s39, s40, s41, s42, s43, s44, s45, s46, s47, s48, s49, s50, s51, s52, s53, s54, s55, s56, s57, s58, s59, s60, s61, s62, s63, s64, s65, s66, s67, s68, s69, s70, s71, s72, s73, s74, s75, s76, s77, s78, s79, .bool (decide (n < 9) || decide (¬ z0 = 9) || decide (¬ z1 = 2) || decide (¬ z2 + 256 * z3 = (n : Int)) || decide (z4 < 1) || decide (16 < z4) || decide (z5 < 1) || decide (z7 < 128) || decide (¬ z7 % 32 = 0) || decide (250 < z8)), u81, u82, u83, u84, u85, u86, u87, u88, u89, u90, u91, u92, u93, u94, u95, u96, u97, u98, u99, u100, u101, u102, u103, u104, u105, u106, u107, u108, u109, u110, u111, u112, u113, u114, u115, u116, u117, u118, u119, u120, u121, u122, u123, u124, u125, u126, u127, u128, u129, u130, u131, u132, u133, u134, u135, u136, u137, u138, u139, u140, u141, u142, u143, u144, u145, u146, u147, u148, u149, u150, u151, u152, u153, u154, u155, u156, u157, u158, u159, u160, u161, u162, u163, u164, u165, u166, u167, u168, u169, u170, u171, u172, u173, u174, u175, u176, u177, u178, u179, u180, u181, u182, u183, u184, u185, u186, u187, u188, u189, u190, u191, u192, u193, u194, u195, u196, u197, u198, u199, u200, u201, u202, u203, u204, u205, u206, u207, u208, u209, u210, u211, u212, u213, u214, u215, u216, u217, u218, u219, u220, u221, u222, u223, u224, u225, u226, u227, u228, u229, u230, u231, u232, u233, u234, u235, u236, u237, u238, u239, u240, u241, u242, u243, u244, u245, u246, u247, u248, u249, u250, u251, u252, u253, u254, u255, u256, u257, u258, u259, u260, u261, u262, u263, u264, u265, u266, u267, u268, u269, u270, u271, u272, u273, u274, u275, u276, u277, u278, u279, u280, u281, u282, u283, u284, u285, u286, u287, u288, u289, u290, u291, u292, u293, u294, u295, u296, u297, u298, u299, u300, u301, u302, u303, u304, u305, u306, u307, u308, u309, u310, u311, u312, u313, u314, u315, u316, u317, u318, u319, u320, u321, u322, u323, u324, u325, u326, u327, u328, u329, u330, u331, u332, u333, u334, u335, u336, u337, u338, u339, u340, u341, u342, u343, u344, u345, u346, u347, u348, u349, u350, u351, u352, u353], []⟩ w') :
    Code.wp Tryd.prog (headC code1a) Q ⟨#[.slice (some ⟨b, off, none⟩) n c, u1, u2, u3, u4, u5, u6, u7, u8, u9, u10, u11, u12, u13, u14, u15, u16, u17, u18, u19, u20, u21, u22, u23, u24, u25, u26, u27, u28, u29, u30, u31, u32, u33, u34, u35, u36, u37, u38, u39, u40, u41, u42, u43, u44, u45, u46, u47, u48, u49, u50, u51, u52, u53, u54, u55, u56, u57, u58, u59, u60, u61, u62, u63, u64, u65, u66, u67, u68, u69, u70, u71, u72, u73, u74, u75, u76, u77, u78, u79, u80, u81, u82, u83, u84, u85, u86, u87, u88, u89, u90, u91, u92, u93, u94, u95, u96, u97, u98, u99, u100, u101, u102, u103, u104, u105, u106, u107, u108, u109, u110, u111, u112, u113, u114, u115, u116, u117, u118, u119, u120, u121, u122, u123, u124, u125, u126, u127, u128, u129, u130, u131, u132, u133, u134, u135, u136, u137, u138, u139, u140, u141, u142, u143, u144, u145, u146, u147, u148, u149, u150, u151, u152, u153, u154, u155, u156, u157, u158, u159, u160, u161, u162, u163, u164, u165, u166, u167, u168, u169, u170, u171, u172, u173, u174, u175, u176, u177, u178, u179, u180, u181, u182, u183, u184, u185, u186, u187, u188, u189, u190, u191, u192, u193, u194, u195, u196, u197, u198, u199, u200, u201, u202, u203, u204, u205, u206, u207, u208, u209, u210, u211, u212, u213, u214, u215, u216, u217, u218, u219, u220, u221, u222, u223, u224, u225, u226, u227, u228, u229, u230, u231, u232, u233, u234, u235, u236, u237, u238, u239, u240, u241, u242, u243, u244, u245, u246, u247, u248, u249, u250, u251, u252, u253, u254, u255, u256, u257, u258, u259, u260, u261, u262, u263, u264, u265, u266, u267, u268, u269, u270, u271, u272, u273, u274, u275, u276, u277, u278, u279, u280, u281, u282, u283, u284, u285, u286, u287, u288, u289, u290, u291, u292, u293, u294, u295, u296, u297, u298, u299, u300, u301, u302, u303, u304, u305, u306, u307, u308, u309, u310, u311, u312, u313, u314, u315, u316, u317, u318, u319, u320, u321, u322, u323, u324, u325, u326, u327, u328, u329, u330, u331, u332, u333, u334, u335, u336, u337, u338, u339, u340, u341, u342, u343, u344, u345, u346, u347, u348, u349, u350, u351, u352, u353], []⟩ wr := by
  by_cases g1 : (n < 9) ∨ (¬ z0 = 9) ∨ (¬ z1 = 2)
  · exact acc_head1 hnc hcm hb x0' x1' x2' x3' x4' x5' x7' x8' k0 k1 k2 k3 k4 k5 k7 k8 g1 Q hQ
  simp only [not_or] at g1
  obtain ⟨hlt, h0, h1⟩ := g1
  by_cases g2 : (¬ z2 + 256 * z3 = (n : Int)) ∨ (z4 < 1) ∨ (16 < z4)
  · exact acc_head2 hnc hcm hb x0' x1' x2' x3' x4' x5' x7' x8' k0 k1 k2 k3 k4 k5 k7 k8 hlt h0 h1 g2 Q hQ
  simp only [not_or] at g2
  obtain ⟨h23, h4, h4b⟩ := g2
  exact acc_head3 hnc hcm hb x0' x1' x2' x3' x4' x5' x7' x8' k0 k1 k2 k3 k4 k5 k7 k8 hlt h0 h1 h23 h4 h4b Q hQ
end Go.Proofs.YtjgncofhobhjdaaDoor
