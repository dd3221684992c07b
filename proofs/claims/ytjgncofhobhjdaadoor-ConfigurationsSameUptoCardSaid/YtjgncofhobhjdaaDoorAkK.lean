/- accepted: the whole. Printed by gen_aa.py. -/
import Derived.Test.YtjgncofhobhjdaaDoorChecked
import Derived.Deep.RegionHeld3
import Derived.Deep.DrawnRows
import Derived.Deep.DeepCutAuto
import Derived.Deep.LoopGhost
import Derived.Outline
import Derived.Handy
import Derived.OwnWalk
import Derived.BigQuiet
import Derived.Deep.CutBlock
import Derived.Test.YtjgncofhobhjdaaDoorN21
import Derived.Test.YtjgncofhobhjdaaDoorN23
set_option linter.unusedVariables false
set_option linter.unusedSimpArgs false
set_option linter.unusedSectionVars false
namespace Go.Proofs.YtjgncofhobhjdaaDoor
open Go.RowKit
attribute [local go_sem ↓] Go.wp_at_zero Go.wp_at_succ

def resB (l : List Int) : Option Nat → Bool
  | some n => decide ((n : Int) = byteAt l 4)
  | none => false
def retB (v : Bool) : Value := .int .i64 (if v then 1 else 0)
set_option maxRecDepth 1000000 in
set_option maxHeartbeats 16000000 in
theorem acc_headS {u1 u2 u3 u4 u5 u6 u7 u8 u9 u10 u11 u12 u13 u14 u15 u16 u17 u18 u19 u20 u21 u22 u23 u24 u25 u26 u27 u28 u29 u30 u31 u32 u33 u34 u35 u36 u37 u38 u39 u40 u41 u42 u43 u44 u45 u46 u47 u48 u49 u50 u51 u52 u53 u54 u55 u56 u57 u58 u59 u60 u61 u62 u63 u64 u65 u66 u67 u68 u69 u70 u71 u72 u73 u74 u75 u76 u77 u78 u79 u80 u81 u82 u83 u84 u85 u86 u87 u88 u89 u90 u91 u92 u93 u94 u95 u96 u97 u98 u99 u100 u101 u102 u103 u104 u105 u106 u107 u108 u109 u110 u111 u112 u113 u114 u115 u116 u117 u118 u119 u120 u121 u122 u123 u124 u125 u126 u127 u128 u129 u130 u131 u132 u133 u134 u135 u136 u137 u138 u139 u140 u141 u142 u143 u144 u145 u146 u147 u148 u149 u150 u151 u152 u153 u154 u155 u156 u157 u158 u159 u160 u161 u162 u163 u164 u165 u166 u167 u168 u169 u170 u171 u172 u173 u174 u175 u176 u177 u178 u179 u180 u181 u182 u183 u184 u185 u186 u187 u188 u189 u190 u191 u192 u193 u194 u195 u196 u197 u198 u199 u200 u201 u202 u203 u204 u205 u206 u207 u208 u209 u210 u211 u212 u213 u214 u215 u216 u217 u218 u219 u220 u221 u222 u223 u224 u225 u226 u227 u228 u229 u230 u231 u232 u233 u234 u235 u236 u237 u238 u239 u240 u241 u242 u243 u244 u245 u246 u247 u248 u249 u250 u251 u252 u253 u254 u255 u256 u257 u258 u259 u260 u261 u262 u263 u264 u265 u266 u267 u268 u269 u270 u271 u272 u273 u274 u275 u276 u277 u278 u279 u280 u281 u282 u283 u284 u285 u286 u287 u288 u289 u290 u291 u292 u293 u294 u295 u296 u297 u298 u299 u300 u301 u302 u303 u304 u305 u306 u307 u308 u309 u310 u311 u312 u313 u314 u315 u316 u317 u318 u319 u320 u321 u322 u323 u324 u325 u326 u327 u328 u329 u330 u331 u332 u333 u334 u335 u336 u337 u338 u339 u340 u341 u342 u343 u344 u345 u346 u347 u348 u349 u350 u351 u352 u353 : Value} {A : Option Addr} {n c : Nat} {wr : World} (hlt : n < 9)
    (Q : Exit → Act → World → Prop) (hQ : ∀ (s14 s15 s16 s17 s18 s19 s20 s21 s22 s23 s24 s25 s26 s27 s28 s29 s30 s31 s32 s33 s34 s35 s36 s37 s38 s39 s40 s41 s42 s43 s44 s45 s46 s47 s48 s49 s50 s51 s52 s53 s54 s55 s56 s57 s58 s59 s60 s61 s62 s63 s64 s65 s66 s67 s68 s69 s70 s71 s72 s73 s74 s75 s76 s77 s78 s79 : Value) (w' : World), Kept wr w' → Q .normal ⟨#[.slice A n c, u1, u2, u3, u4, u5, u6, u7, u8, u9, u10, u11, u12, u13, s14, s15, s16, s17, s18, s19, s20, s21, s22, s23, s24, s25, s26, s27, s28, s29, s30, s31, s32, s33, s34, s35, s36, s37, s38, s39, s40, s41, s42, s43, s44, s45, s46, s47, s48, s49, s50, s51, s52, s53, s54, s55, s56, s57, s58, s59, s60, s61, s62, s63, s64, s65, s66, s67, s68, s69, s70, s71, s72, s73, s74, s75, s76, s77, s78, s79, .bool true, u81, u82, u83, u84, u85, u86, u87, u88, u89, u90, u91, u92, u93, u94, u95, u96, u97, u98, u99, u100, u101, u102, u103, u104, u105, u106, u107, u108, u109, u110, u111, u112, u113, u114, u115, u116, u117, u118, u119, u120, u121, u122, u123, u124, u125, u126, u127, u128, u129, u130, u131, u132, u133, u134, u135, u136, u137, u138, u139, u140, u141, u142, u143, u144, u145, u146, u147, u148, u149, u150, u151, u152, u153, u154, u155, u156, u157, u158, u159, u160, u161, u162, u163, u164, u165, u166, u167, u168, u169, u170, u171, u172, u173, u174, u175, u176, u177, u178, u179, u180, u181, u182, u183, u184, u185, u186, u187, u188, u189, u190, u191, u192, u193, u194, u195, u196, u197, u198, u199, u200, u201, u202, u203, u204, u205, u206, u207, u208, u209, u210, u211, u212, u213, u214, u215, u216, u217, u218, u219, u220, u221, u222, u223, u224, u225, u226, u227, u228, u229, u230, u231, u232, u233, u234, u235, u236, u237, u238, u239, u240, u241, u242, u243, u244, u245, u246, u247, u248, u249, u250, u251, u252, u253, u254, u255, u256, u257, u258, u259, u260, u261, u262, u263, u264, u265, u266, u267, u268, u269, u270, u271, u272, u273, u274, u275, u276, u277, u278, u279, u280, u281, u282, u283, u284, u285, u286, u287, u288, u289, u290, u291, u292, u293, u294, u295, u296, u297, u298, u299, u300, u301, u302, u303, u304, u305, u306, u307, u308, u309, u310, u311, u312, u313, u314, u315, u316, u317, u318, u319, u320, u321, u322, u323, u324, u325, u326, u327, u328, u329, u330, u331, u332, u333, u334, u335, u336, u337, u338, u339, u340, u341, u342, u343, u344, u345, u346, u347, u348, u349, u350, u351, u352, u353], []⟩ w') :
    Code.wp Tryd.prog (headC code1a) Q ⟨#[.slice A n c, u1, u2, u3, u4, u5, u6, u7, u8, u9, u10, u11, u12, u13, u14, u15, u16, u17, u18, u19, u20, u21, u22, u23, u24, u25, u26, u27, u28, u29, u30, u31, u32, u33, u34, u35, u36, u37, u38, u39, u40, u41, u42, u43, u44, u45, u46, u47, u48, u49, u50, u51, u52, u53, u54, u55, u56, u57, u58, u59, u60, u61, u62, u63, u64, u65, u66, u67, u68, u69, u70, u71, u72, u73, u74, u75, u76, u77, u78, u79, u80, u81, u82, u83, u84, u85, u86, u87, u88, u89, u90, u91, u92, u93, u94, u95, u96, u97, u98, u99, u100, u101, u102, u103, u104, u105, u106, u107, u108, u109, u110, u111, u112, u113, u114, u115, u116, u117, u118, u119, u120, u121, u122, u123, u124, u125, u126, u127, u128, u129, u130, u131, u132, u133, u134, u135, u136, u137, u138, u139, u140, u141, u142, u143, u144, u145, u146, u147, u148, u149, u150, u151, u152, u153, u154, u155, u156, u157, u158, u159, u160, u161, u162, u163, u164, u165, u166, u167, u168, u169, u170, u171, u172, u173, u174, u175, u176, u177, u178, u179, u180, u181, u182, u183, u184, u185, u186, u187, u188, u189, u190, u191, u192, u193, u194, u195, u196, u197, u198, u199, u200, u201, u202, u203, u204, u205, u206, u207, u208, u209, u210, u211, u212, u213, u214, u215, u216, u217, u218, u219, u220, u221, u222, u223, u224, u225, u226, u227, u228, u229, u230, u231, u232, u233, u234, u235, u236, u237, u238, u239, u240, u241, u242, u243, u244, u245, u246, u247, u248, u249, u250, u251, u252, u253, u254, u255, u256, u257, u258, u259, u260, u261, u262, u263, u264, u265, u266, u267, u268, u269, u270, u271, u272, u273, u274, u275, u276, u277, u278, u279, u280, u281, u282, u283, u284, u285, u286, u287, u288, u289, u290, u291, u292, u293, u294, u295, u296, u297, u298, u299, u300, u301, u302, u303, u304, u305, u306, u307, u308, u309, u310, u311, u312, u313, u314, u315, u316, u317, u318, u319, u320, u321, u322, u323, u324, u325, u326, u327, u328, u329, u330, u331, u332, u333, u334, u335, u336, u337, u338, u339, u340, u341, u342, u343, u344, u345, u346, u347, u348, u349, u350, u351, u352, u353], []⟩ wr := by
  have hlt2 : (n : Int) < 9 := by omega
  have HQ := hide hQ
  clear hQ
  conv => arg 2; whnf
  simp only [List.append_eq, List.cons_append, List.nil_append]
  go_quiet (fail)
  exact HQ.out _ _ _ _ _ _ _ _ _ _ _ _ _ _ _ _ _ _ _ _ _ _ _ _ _ _ _ _ _ _ _ _ _ _ _ _ _ _ _ _ _ _ _ _ _ _ _ _ _ _ _ _ _ _ _ _ _ _ _ _ _ _ _ _ _ _ _ (by first | exact Below.refl _ _ | exact below_drewN (Below.refl _ _) _ | go_grown)
theorem acc_headB {l : List Int} {n : Nat} (hn : l.length = n) (h : (decide (n < 9) || decide (¬ byteAt l 0 = 9) || decide (¬ byteAt l 1 = 2) || decide (¬ byteAt l 2 + 256 * byteAt l 3 = (n : Int)) || decide (byteAt l 4 < 1) || decide (16 < byteAt l 4) || decide (byteAt l 5 < 1) || decide (byteAt l 7 < 128) || decide (¬ byteAt l 7 % 32 = 0) || decide (250 < byteAt l 8)) = false) : 9 ≤ n ∧ ∀ r, accLoop (n - 9 + 1) (l.drop 9) 0 0 (fun _ => 0) = r → accB l = resB l r := by
  simp only [Bool.or_eq_false_iff, decide_eq_false_iff_not, Classical.not_not] at h
  obtain ⟨⟨⟨⟨⟨⟨⟨⟨⟨h1, h2⟩, h3⟩, h4⟩, h5⟩, h6⟩, h7⟩, h8⟩, h9⟩, h10⟩ := h
  refine ⟨by omega, fun r hr => ?_⟩
  rw [accB_eq (by omega), hn, hr, decide_eq_true h2, decide_eq_true h3, decide_eq_true h4, decide_eq_true (show 1 ≤ byteAt l 4 by omega), decide_eq_true (show byteAt l 4 ≤ 16 by omega), decide_eq_true (show 1 ≤ byteAt l 5 by omega), decide_eq_true (show 128 ≤ byteAt l 7 by omega), decide_eq_true h9, decide_eq_true (show byteAt l 8 ≤ 250 by omega)]
  cases r <;> rfl
theorem acc_headN {l : List Int} {n : Nat} (hn : l.length = n) (h : (decide (n < 9) || decide (¬ byteAt l 0 = 9) || decide (¬ byteAt l 1 = 2) || decide (¬ byteAt l 2 + 256 * byteAt l 3 = (n : Int)) || decide (byteAt l 4 < 1) || decide (16 < byteAt l 4) || decide (byteAt l 5 < 1) || decide (byteAt l 7 < 128) || decide (¬ byteAt l 7 % 32 = 0) || decide (250 < byteAt l 8)) = true) : accB l = false := by
  by_cases h9 : 9 ≤ n
  · rw [accB_eq (by omega), hn]
    by_cases hc : accB l = true
    · exfalso
      rw [accB_eq (by omega), hn] at hc
      simp only [Bool.and_eq_true, decide_eq_true_eq] at hc
      obtain ⟨⟨⟨⟨⟨⟨⟨⟨⟨h1, h2⟩, h3⟩, h4⟩, h5⟩, h6⟩, h7⟩, h8⟩, h10⟩, _⟩ := hc
      rw [decide_eq_false (by omega), decide_eq_false (by rw [h1]; simp), decide_eq_false (by rw [h2]; simp), decide_eq_false (by rw [h3]; simp), decide_eq_false (by omega), decide_eq_false (by omega), decide_eq_false (by omega), decide_eq_false (by omega), decide_eq_false (by rw [h8]; simp), decide_eq_false (by omega)] at h
      simp at h
    · rw [← hn, ← accB_eq (by omega)]
      simpa using hc
  · exact accB_short (by omega)
set_option maxRecDepth 1000000 in
set_option maxHeartbeats 16000000 in
theorem acc_any (A : Option Addr) (n c : Nat) (l : List Int) (w : World) (hl : Sl u8T w (low w.heap.size) A n l) (hnc : n ≤ c) (hcm : c ≤ maxLen) (hn4 : n ≤ 10000) :
    Calls Tryd.prog 20 #[.slice A n c] w fun e w' => e = .returned (retB (accB l)) ∧ Kept w w' := by
  have hln := hl.1
  have Hln := hide hln
  by_cases hn9 : n < 9
  case pos =>
    have HN := hide (accB_short (l := l) (by omega))
    clear hln hl
    go_enter Tryd.func20, Tryd.ntmps20
    go_upto_region 1 with (fail)
    refine acc_headS hn9 _ ?_
    intro s14 s15 s16 s17 s18 s19 s20 s21 s22 s23 s24 s25 s26 s27 s28 s29 s30 s31 s32 s33 s34 s35 s36 s37 s38 s39 s40 s41 s42 s43 s44 s45 s46 s47 s48 s49 s50 s51 s52 s53 s54 s55 s56 s57 s58 s59 s60 s61 s62 s63 s64 s65 s66 s67 s68 s69 s70 s71 s72 s73 s74 s75 s76 s77 s78 s79 w1 hk1
    go_wp2_with fail
    go_ret
    exact ⟨by rw [HN.out]; rfl, hk1⟩
  case neg =>
  obtain ⟨b, off, rfl, hbl0, hcx0⟩ := sl_bytes hl (by omega)
  have h8 := sl_byte8 hl
  have H8 := hide h8
  have hcx : ∀ W, Kept w W → ∀ i, i < n → W.cell? ⟨b, off + i, none⟩ = some (.int .u8 (byteAt l i)) := fun W hk i hi => (hk.cell (p := ⟨b, off + i, none⟩) hbl0).trans (hcx0 i hi)
  have Hcx := hide hcx
  have Hbl := hide (show ∀ W, Kept w W → b < W.heap.size from fun W hk => Nat.lt_of_lt_of_le hbl0 hk.size)
  have hl2 := hide hl
  have hn0 : 0 < n := by omega
  clear h8 hcx hcx0 hbl0 hl hln
  go_enter Tryd.func20, Tryd.ntmps20
  go_upto_region 1 with (fail)
  refine acc_head (z0 := byteAt l 0) (z1 := byteAt l 1) (z2 := byteAt l 2) (z3 := byteAt l 3) (z4 := byteAt l 4) (z5 := byteAt l 5) (z7 := byteAt l 7) (z8 := byteAt l 8) hnc hcm (fun _ => Hbl.out _ (Below.refl _ _)) (fun h => Hcx.out _ (Below.refl _ _) 0 (by omega)) (fun h => Hcx.out _ (Below.refl _ _) 1 (by omega)) (fun h => Hcx.out _ (Below.refl _ _) 2 (by omega)) (fun h => Hcx.out _ (Below.refl _ _) 3 (by omega)) (fun h => Hcx.out _ (Below.refl _ _) 4 (by omega)) (fun h => Hcx.out _ (Below.refl _ _) 5 (by omega)) (fun h => Hcx.out _ (Below.refl _ _) 7 (by omega)) (fun h => Hcx.out _ (Below.refl _ _) 8 (by omega)) (H8.out 0) (H8.out 1) (H8.out 2) (H8.out 3) (H8.out 4) (H8.out 5) (H8.out 7) (H8.out 8) _ ?_
  intro s14 s15 s16 s17 s18 s19 s20 s21 s22 s23 s24 s25 s26 s27 s28 s29 s30 s31 s32 s33 s34 s35 s36 s37 s38 s39 s40 s41 s42 s43 s44 s45 s46 s47 s48 s49 s50 s51 s52 s53 s54 s55 s56 s57 s58 s59 s60 s61 s62 s63 s64 s65 s66 s67 s68 s69 s70 s71 s72 s73 s74 s75 s76 s77 s78 s79 w1 hk1
  obtain ⟨B, hB⟩ : ∃ B, (decide (n < 9) || decide (¬ byteAt l 0 = 9) || decide (¬ byteAt l 1 = 2) || decide (¬ byteAt l 2 + 256 * byteAt l 3 = (n : Int)) || decide (byteAt l 4 < 1) || decide (16 < byteAt l 4) || decide (byteAt l 5 < 1) || decide (byteAt l 7 < 128) || decide (¬ byteAt l 7 % 32 = 0) || decide (250 < byteAt l 8)) = B := ⟨_, rfl⟩
  rw [hB]
  have HB := hide hB
  clear hB
  cases B with
  | true =>
    have HN := hide (acc_headN Hln.out HB.out)
    clear HB
    go_wp2_with fail
    go_ret
    exact ⟨by rw [HN.out]; rfl, hk1⟩
  | false =>
  have HACC := hide (acc_headB Hln.out HB.out).2
  have hn9' : 9 ≤ n := by omega
  have Hkw := hide hk1
  clear HB hk1
  go_upto_block 0 with (fail)
  refine wp_at (fun W => W.heap[w1.heap.size]? = some (.cells (arr fun _ => 0) 106 (0, 0)) ∧ Kept w1 W) ⟨heap_at _ rfl, by go_grown⟩ (fun W hW => ?_)
  obtain ⟨hOB, hkW⟩ := hW
  obtain ⟨OB, hOBd⟩ : ∃ OB, w1.heap.size = OB := ⟨_, rfl⟩
  have hOV : w.heap.size ≤ OB := by rw [← hOBd]; exact Hkw.out.size
  rw [hOBd] at hOB
  simp only [hOBd]
  have HOB0 := hide hOB
  have Hkw0 := hide (Hkw.out.trans' hkW)
  clear hOB hkW hOBd Hkw
  go_wp2_with fail
  go_loopg [4, 5, 6] (n - 9) (fun g s4 s5 s6 wx => ∃ (p f ifc set : Nat) (o : Int → Nat), p + g = n ∧ s4 = .int .i64 ifc ∧ s5 = .int .i64 set ∧ s6 = .int .i64 p ∧ Kept w wx ∧ wx.heap[OB]? = some (.cells (arr o) 106 (0, 0)) ∧ p ≤ n ∧ ifc ≤ p ∧ set ≤ 16 ∧ n + 1 ≤ p + f ∧ accLoop (n - 9 + 1) (l.drop 9) 0 0 (fun _ => 0) = accLoop f (l.drop p) ifc set o)
  case atStart => exact ⟨9, n - 9 + 1, 0, 0, fun _ => 0, by omega, by first | rfl | simp, by first | rfl | simp, by first | rfl | simp, Hkw0.out, HOB0.out, hn9', by omega, by omega, by omega, rfl⟩
  case round =>
    clear HOB0 Hkw0
    obtain ⟨p, f, ifc, set, o, hp, rfl, rfl, rfl, hkr, hOB, hpn, hip, hs16, hfu, hrel⟩ := hrel
    have Hp := hide hp
    have Hkr := hide hkr
    have HOB := hide hOB
    clear hp hkr hOB
    by_cases hlt : p < n
    case neg =>
      have hge : (n : Int) ≤ (p : Int) := by omega
      have hge2 : ¬ (p : Int) < (n : Int) := by omega
      have hacc : accB l = resB l (some ifc) := HACC.out _ (by
        rw [hrel, List.drop_of_length_le (by rw [Hln.out]; omega), show f = f - 1 + 1 by omega]
        rfl)
      have y4 := Hcx.out _ Hkr.out 4 (by omega)
      have ly := Hbl.out _ Hkr.out
      have hz := H8.out 4
      obtain ⟨b4, hb4⟩ : ∃ b4, byteAt l 4 = b4 := ⟨_, rfl⟩
      obtain ⟨z0, z1⟩ := hz
      replace hacc : accB l = decide ((ifc : Int) = byteAt l 4) := hacc
      rw [hb4] at y4 z0 z1 hacc
      have hwb : IntKind.i64.wrap b4 = b4 := by rw [IntKind.wrap_i64]; omega
      have hj4 : (4 : Int) < (n : Int) := by omega
      have hj4n : 4 < n := by omega
      have Hacc := hide hacc
      clear hacc hrel hb4
      by_cases he : (ifc : Int) = b4
      case pos =>
        have HN := hide (show accB l = true by rw [Hacc.out, decide_eq_true he])
        have he1 : ((ifc : Int) == b4) = true := by simpa using he
        have he2 : ((ifc : Int) != b4) = false := by simpa using he
        clear he Hacc
        go_wp2_with fail
        go_ret
        exact ⟨by rw [HN.out]; rfl, Hkr.out⟩
      case neg =>
        have HN := hide (show accB l = false by rw [Hacc.out, decide_eq_false he])
        have he1 : ((ifc : Int) == b4) = false := by simpa using he
        have he2 : ((ifc : Int) != b4) = true := by simpa using he
        clear Hacc
        go_wp2_with fail
        go_ret
        exact ⟨by rw [HN.out]; rfl, Hkr.out⟩
    case pos =>
    have hlti : (p : Int) < (n : Int) := by omega
    rw [show f = f - 1 + 1 by omega] at hrel
    have Hrel := hide hrel
    clear hrel
    go_upto_region 7 with (fail)
    refine acc_r7 (z0 := byteAt l p) (z1 := byteAt l (p + 1)) (z4 := byteAt l (p + 4)) hnc hcm hpn (fun _ => Hbl.out _ Hkr.out) (fun h => Hcx.out _ Hkr.out p (by omega)) (fun h => Hcx.out _ Hkr.out (p + 1) (by omega)) (fun h => Hcx.out _ Hkr.out (p + 4) (by omega)) (H8.out p) (H8.out (p + 1)) (H8.out (p + 4)) _ ?_
    intro s85 s86 s87 s88 s89 s90 s91 s92 s93 s94 s95 s96 s97 s98 s99 s100 s101 s102 s103 s104 s105 s106 s107 s108 s109 s110 s111 w1' hk1
    have hkr1 := Hkr.out.trans' hk1
    have hOB1 := heap_kept hk1 HOB.out
    have Hkr1 := hide hkr1
    have HOB1 := hide hOB1
    clear Hkr HOB hkr1 hOB1 hk1
    obtain ⟨B, hB⟩ : ∃ B, (decide ((n : Int) - (p : Int) < 9) || decide (¬ byteAt l p = 9) || decide (¬ byteAt l (p + 1) = 4) || decide (30 < byteAt l (p + 4))) = B := ⟨_, rfl⟩
    rw [hB]
    have HB := hide hB
    clear hB
    cases B with
    | true =>
      have hnone : accLoop (n - 9 + 1) (l.drop 9) 0 0 (fun _ => 0) = none := by
        rw [Hrel.out]
        by_cases h9 : p + 9 ≤ n
        · rw [accLoop_step (by rw [Hln.out]; exact h9) (f - 1) ifc set _ _ o rfl rfl, if_pos]
          have hb := HB.out
          simp only [Bool.or_eq_true, decide_eq_true_eq] at hb
          rcases hb with ((hb | hb) | hb) | hb
          · omega
          · exact .inl hb
          · exact .inr (.inl hb)
          · exact .inr (.inr hb)
        · exact accLoop_short (by rw [Hln.out]; exact hlt) (by rw [Hln.out]; omega) _ _ _ _
      have HN := hide (HACC.out _ hnone)
      clear hnone Hrel HB
      go_wp2_with fail
      go_ret
      exact ⟨by rw [HN.out]; rfl, Hkr1.out⟩
    | false =>
    have hb := HB.out
    simp only [Bool.or_eq_false_iff, decide_eq_false_iff_not, Classical.not_not] at hb
    obtain ⟨⟨⟨hb9, e0⟩, e1⟩, h4⟩ := hb
    have hp9 : p + 9 ≤ n := by omega
    have E0 := hide e0
    have E1 := hide e1
    have H4 := hide h4
    have y3 := Hcx.out _ Hkr1.out (p + 3) (by omega)
    have ly := Hbl.out _ Hkr1.out
    have hw3 : IntKind.i64.wrap ((p : Int) + 3) = ((p + 3 : Nat) : Int) := by rw [IntKind.wrap_i64]; omega
    have hi3 : (0 : Int) ≤ ((p + 3 : Nat) : Int) := by omega
    have hj3 : ((p + 3 : Nat) : Int) < (n : Int) := by omega
    have hk3 : (0 : Int) ≤ (p : Int) + 3 := by omega
    have hl3 : (p : Int) + 3 < (n : Int) := by omega
    clear HB e0 e1 h4 hb9
    by_cases hz3 : byteAt l (p + 3) = 0
    case pos =>
      have h3e : (byteAt l (p + 3) == 0) = true := by simpa using hz3
      obtain ⟨i2, hi2⟩ : ∃ i2, ifc + 1 = i2 := ⟨_, rfl⟩
      have hwif : IntKind.i64.wrap ((ifc : Int) + 1) = (i2 : Int) := by rw [IntKind.wrap_i64]; omega
      have hi2p : i2 ≤ p + 1 := by omega
      have hst := accLoop_step (l := l) (p := p) (by rw [Hln.out]; exact hp9) (f - 1) ifc set i2 0 o (by rw [if_pos hz3]; exact hi2) (by rw [if_pos hz3])
      rw [if_neg (by rw [E0.out, E1.out]; simp only [ne_eq, not_true_eq_false, false_or]; have := H4.out; omega)] at hst
      have Hst := hide (Hrel.out.trans hst)
      have Hz3 := hide hz3
      clear hst hz3 Hrel
      go_upto_region 12 with (fail)
      refine acc_r12 (z2 := byteAt l (p + 2)) (z3 := byteAt l (p + 3)) (ifc := i2) (set := 0) hnc hcm hpn (by omega) (by omega) hp9 (fun _ => Hbl.out _ Hkr1.out) (fun h => Hcx.out _ Hkr1.out (p + 2) (by omega)) (fun h => Hcx.out _ Hkr1.out (p + 3) (by omega)) (H8.out (p + 2)) (H8.out (p + 3)) _ ?_
      intro s121 s122 s123 s124 s125 s126 s127 s128 s129 s130 s131 s132 s133 s134 s135 s136 s137 s138 s139 s140 s141 s142 s143 s144 s145 s146 w2 hk2
      have hkr2 := Hkr1.out.trans' hk2
      have hOB2 := heap_kept hk2 HOB1.out
      have Hkr2 := hide hkr2
      have HOB2 := hide hOB2
      clear Hkr1 HOB1 hkr2 hOB2 hk2 y3 ly
      obtain ⟨B, hB⟩ : ∃ B, (decide ((i2 : Int) = 0) || decide (¬ byteAt l (p + 2) = (i2 : Int) - 1) || decide (¬ byteAt l (p + 3) = ((0 : Nat) : Int)) || decide (15 < ((0 : Nat) : Int))) = B := ⟨_, rfl⟩
      rw [hB]
      have HB := hide hB
      clear hB
      cases B with
      | true =>
        have hnone : accLoop (n - 9 + 1) (l.drop 9) 0 0 (fun _ => 0) = none := by
          rw [Hst.out, if_pos]
          have hb := HB.out
          simp only [Bool.or_eq_true, decide_eq_true_eq] at hb
          rcases hb with ((hb | hb) | hb) | hb
          · exact .inl (by omega)
          · exact .inr (.inl hb)
          · exact .inr (.inr (.inl hb))
          · exact .inr (.inr (.inr (by omega)))
        have HN := hide (HACC.out _ hnone)
        clear hnone Hst HB
        go_wp2_with fail
        go_ret
        exact ⟨by rw [HN.out]; rfl, Hkr2.out⟩
      | false =>
      have hb := HB.out
      simp only [Bool.or_eq_false_iff, decide_eq_false_iff_not, Classical.not_not] at hb
      obtain ⟨⟨⟨hb1, hb2⟩, hb3⟩, hb4⟩ := hb
      have hst := Hst.out
      rw [if_neg (by rw [hb2, hb3]; simp only [ne_eq, not_true_eq_false, false_or]; omega)] at hst
      have Hst2 := hide hst
      have hset : (0 : Nat) ≤ 15 := by omega
      clear HB hb1 hb2 hb3 hb4 hst Hst
      obtain ⟨mn, hmn⟩ : ∃ mn : Nat, byteAt l (p + 4) = (mn : Int) := ⟨(byteAt l (p + 4)).toNat, by have := (H8.out (p + 4)).1; omega⟩
      have hmn2 : mn ≤ 255 := by have := (H8.out (p + 4)).2; omega
      have y4 := Hcx.out _ Hkr2.out (p + 4) (by omega)
      rw [hmn] at y4
      have ly2 := Hbl.out _ Hkr2.out
      have Hmn := hide hmn
      have hwm : IntKind.i64.wrap (mn : Int) = (mn : Int) := by rw [IntKind.wrap_i64]; omega
      have hw4 : IntKind.i64.wrap ((p : Int) + 4) = ((p + 4 : Nat) : Int) := by rw [IntKind.wrap_i64]; omega
      have hi4 : (0 : Int) ≤ ((p + 4 : Nat) : Int) := by omega
      have hj4 : ((p + 4 : Nat) : Int) < (n : Int) := by omega
      have hk4 : (0 : Int) ≤ (p : Int) + 4 := by omega
      have hl4 : (p : Int) + 4 < (n : Int) := by omega
      obtain ⟨p9, hp9d⟩ : ∃ p9, p + 9 = p9 := ⟨_, rfl⟩
      have hw9 : IntKind.i64.wrap ((p : Int) + 9) = (p9 : Int) := by rw [IntKind.wrap_i64]; omega
      obtain ⟨stp, hs2⟩ : ∃ stp, 0 + 1 = stp := ⟨_, rfl⟩
      have hws : IntKind.i64.wrap (0 + 1) = (stp : Int) := by rw [IntKind.wrap_i64]; omega
      rw [hp9d] at Hst2
      have hp9n : p9 ≤ n := by omega
      have Hs2 := hide hs2
      have Hp9d := hide hp9d
      clear hmn hs2 hp9d
      go_upto_block 2 with (fail)
      refine acc_skip (l := l) (hl2.out.kept Hkr2.out) hn0 hnc hcm hn4 hp9n _ ?_
      intro s158 s159 s160 s161 s162 s163 s164 s165 s166 s167 s168 s169 s170 s171 s172 s173 s174 s175 s176 s177 s178 s179 s180 s181 s182 s183 s184 s185 s186 s187 s188 s189 s190 s191 s192 s193 s194 s195 s196 s197 s198 s199 s200 s201 s202 s203 s204 s205 s206 s207 s208 s209 s210 s211 s212 s213 s214 s215 s216 s217 s218 s219 p' w3 hk3 hpp' hpn' hax
      have hkr3 := Hkr2.out.trans' hk3
      have hOB3 := heap_kept hk3 HOB2.out
      have hst2 := Hst2.out
      rw [Hln.out, hax, Hmn.out, Int.toNat_natCast] at hst2
      have Hst3 := hide hst2
      have Hkr3 := hide hkr3
      have HOB3 := hide hOB3
      clear Hkr2 HOB2 hkr3 hOB3 hk3 y4 ly2 hax hst2 Hst2
      go_upto_block 4 with (fail)
      refine wp_at (fun W => W.heap[w3.heap.size]? = some (.cells (arr fun _ => 0) 106 (0, 0)) ∧ Kept w3 W) ⟨heap_at _ rfl, by go_grown⟩ (fun W hW => ?_)
      obtain ⟨hSB, hkW⟩ := hW
      have hne := heap_lt HOB3.out
      obtain ⟨SB, hSBd⟩ : ∃ SB, w3.heap.size = SB := ⟨_, rfl⟩
      have hSV : w.heap.size ≤ SB := by rw [← hSBd]; exact Hkr3.out.size
      rw [hSBd] at hSB hne
      simp only [hSBd]
      refine acc_eps (V := w) (l := l) (o := o) hl2.out hn0 hnc hcm hn4 hpn' (by omega) (by omega) (Hkr3.out.trans' hkW) (heap_kept hkW HOB3.out) hSB hOV hSV (Nat.ne_of_lt hne) _ ?_ ?_
      · intro s2 s9 s10 s11 s12 s13 s220 s221 s222 s223 s224 s225 s226 s227 s228 s229 s230 s231 s232 s233 s234 s235 s236 s237 s238 s239 s240 s241 s242 s243 s244 s245 s246 s247 s248 s249 s250 s251 s252 s253 s254 s255 s256 s257 s258 s259 s260 s261 s262 s263 s264 s265 s266 s267 s268 s269 s270 s271 s272 s273 s274 s275 s276 s277 s278 s279 s280 s281 s282 s283 s284 s285 s286 s287 s288 s289 s290 s291 s292 s293 s294 s295 s296 s297 s298 s299 s300 s301 s302 s303 s304 s305 s306 s307 s308 s309 s310 s311 s312 s313 s314 s315 s316 s317 s318 s319 s320 s321 s322 s323 s324 s325 s326 s327 s328 s329 s330 s331 s332 s333 s334 s335 s336 s337 s338 s339 s340 s341 s342 s343 s344 s345 s346 s347 p2 o2 w5 hk5 hp2 hp2n hob5 hacc
        have hst3 := Hst3.out
        rw [hacc] at hst3
        have Hst4 := hide hst3
        have Hk5 := hide hk5
        have Hob5 := hide hob5
        have Hle := hide (show p + 9 ≤ p2 by have := Hp9d.out; omega)
        clear hst3 Hst3 hacc hk5 hob5 hSB hkW hSBd hne
        go_wp2_with fail
        go_roundg (gk - (p2 - p))
        case measure => have := Hle.out; have := Hp.out; omega
        case rel => exact ⟨p2, f - 1, i2, stp, o2, by have := Hp.out; have := Hle.out; omega, rfl, by (have hh := Hs2.out; first | rfl | go_num), rfl, Hk5.out, Hob5.out, hp2n, by have := Hle.out; omega, by have := Hs2.out; omega, by have := Hle.out; omega, by rw [← Hs2.out]; exact Hst4.out⟩
      · intro s6 s9 s10 s11 s12 s13 s220 s221 s222 s223 s224 s225 s226 s227 s228 s229 s230 s231 s232 s233 s234 s235 s236 s237 s238 s239 s240 s241 s242 s243 s244 s245 s246 s247 s248 s249 s250 s251 s252 s253 s254 s255 s256 s257 s258 s259 s260 s261 s262 s263 s264 s265 s266 s267 s268 s269 s270 s271 s272 s273 s274 s275 s276 s277 s278 s279 s280 s281 s282 s283 s284 s285 s286 s287 s288 s289 s290 s291 s292 s293 s294 s295 s296 s297 s298 s299 s300 s301 s302 s303 s304 s305 s306 s307 s308 s309 s310 s311 s312 s313 s314 s315 s316 s317 s318 s319 s320 s321 s322 s323 s324 s325 s326 s327 s328 s329 s330 s331 s332 s333 s334 s335 s336 s337 s338 s339 s340 s341 s342 s343 s344 s345 s346 s347 w5 hk5 hnone
        have hst3 := Hst3.out
        rw [hnone] at hst3
        have HN := hide (HACC.out _ hst3)
        clear hst3 Hst3 hnone
        go_ret
        exact ⟨by rw [HN.out]; rfl, hk5⟩
    case neg =>
      have h3e : (byteAt l (p + 3) == 0) = false := by simpa using hz3
      obtain ⟨i2, hi2⟩ : ∃ i2, ifc = i2 := ⟨_, rfl⟩
      have hwif : IntKind.i64.wrap ((ifc : Int) + 1) = ((ifc + 1 : Nat) : Int) := by rw [IntKind.wrap_i64]; omega
      have hi2p : i2 ≤ p + 1 := by omega
      have hst := accLoop_step (l := l) (p := p) (by rw [Hln.out]; exact hp9) (f - 1) ifc set i2 set o (by rw [if_neg hz3]; exact hi2) (by rw [if_neg hz3])
      rw [if_neg (by rw [E0.out, E1.out]; simp only [ne_eq, not_true_eq_false, false_or]; have := H4.out; omega)] at hst
      have Hst := hide (Hrel.out.trans hst)
      have Hz3 := hide hz3
      clear hst hz3 Hrel
      go_upto_region 12 with (fail)
      subst hi2
      refine acc_r12 (z2 := byteAt l (p + 2)) (z3 := byteAt l (p + 3)) (ifc := ifc) (set := set) hnc hcm hpn (by omega) (by omega) hp9 (fun _ => Hbl.out _ Hkr1.out) (fun h => Hcx.out _ Hkr1.out (p + 2) (by omega)) (fun h => Hcx.out _ Hkr1.out (p + 3) (by omega)) (H8.out (p + 2)) (H8.out (p + 3)) _ ?_
      intro s121 s122 s123 s124 s125 s126 s127 s128 s129 s130 s131 s132 s133 s134 s135 s136 s137 s138 s139 s140 s141 s142 s143 s144 s145 s146 w2 hk2
      have hkr2 := Hkr1.out.trans' hk2
      have hOB2 := heap_kept hk2 HOB1.out
      have Hkr2 := hide hkr2
      have HOB2 := hide hOB2
      clear Hkr1 HOB1 hkr2 hOB2 hk2 y3 ly
      obtain ⟨B, hB⟩ : ∃ B, (decide ((ifc : Int) = 0) || decide (¬ byteAt l (p + 2) = (ifc : Int) - 1) || decide (¬ byteAt l (p + 3) = (set : Int)) || decide (15 < (set : Int))) = B := ⟨_, rfl⟩
      rw [hB]
      have HB := hide hB
      clear hB
      cases B with
      | true =>
        have hnone : accLoop (n - 9 + 1) (l.drop 9) 0 0 (fun _ => 0) = none := by
          rw [Hst.out, if_pos]
          have hb := HB.out
          simp only [Bool.or_eq_true, decide_eq_true_eq] at hb
          rcases hb with ((hb | hb) | hb) | hb
          · exact .inl (by omega)
          · exact .inr (.inl hb)
          · exact .inr (.inr (.inl hb))
          · exact .inr (.inr (.inr (by omega)))
        have HN := hide (HACC.out _ hnone)
        clear hnone Hst HB
        go_wp2_with fail
        go_ret
        exact ⟨by rw [HN.out]; rfl, Hkr2.out⟩
      | false =>
      have hb := HB.out
      simp only [Bool.or_eq_false_iff, decide_eq_false_iff_not, Classical.not_not] at hb
      obtain ⟨⟨⟨hb1, hb2⟩, hb3⟩, hb4⟩ := hb
      have hst := Hst.out
      rw [if_neg (by rw [hb2, hb3]; simp only [ne_eq, not_true_eq_false, false_or]; omega)] at hst
      have Hst2 := hide hst
      have hset : set ≤ 15 := by omega
      clear HB hb1 hb2 hb3 hb4 hst Hst
      obtain ⟨mn, hmn⟩ : ∃ mn : Nat, byteAt l (p + 4) = (mn : Int) := ⟨(byteAt l (p + 4)).toNat, by have := (H8.out (p + 4)).1; omega⟩
      have hmn2 : mn ≤ 255 := by have := (H8.out (p + 4)).2; omega
      have y4 := Hcx.out _ Hkr2.out (p + 4) (by omega)
      rw [hmn] at y4
      have ly2 := Hbl.out _ Hkr2.out
      have Hmn := hide hmn
      have hwm : IntKind.i64.wrap (mn : Int) = (mn : Int) := by rw [IntKind.wrap_i64]; omega
      have hw4 : IntKind.i64.wrap ((p : Int) + 4) = ((p + 4 : Nat) : Int) := by rw [IntKind.wrap_i64]; omega
      have hi4 : (0 : Int) ≤ ((p + 4 : Nat) : Int) := by omega
      have hj4 : ((p + 4 : Nat) : Int) < (n : Int) := by omega
      have hk4 : (0 : Int) ≤ (p : Int) + 4 := by omega
      have hl4 : (p : Int) + 4 < (n : Int) := by omega
      obtain ⟨p9, hp9d⟩ : ∃ p9, p + 9 = p9 := ⟨_, rfl⟩
      have hw9 : IntKind.i64.wrap ((p : Int) + 9) = (p9 : Int) := by rw [IntKind.wrap_i64]; omega
      obtain ⟨stp, hs2⟩ : ∃ stp, set + 1 = stp := ⟨_, rfl⟩
      have hws : IntKind.i64.wrap ((set : Int) + 1) = (stp : Int) := by rw [IntKind.wrap_i64]; omega
      rw [hp9d] at Hst2
      have hp9n : p9 ≤ n := by omega
      have Hs2 := hide hs2
      have Hp9d := hide hp9d
      clear hmn hs2 hp9d
      go_upto_block 2 with (fail)
      refine acc_skip (l := l) (hl2.out.kept Hkr2.out) hn0 hnc hcm hn4 hp9n _ ?_
      intro s158 s159 s160 s161 s162 s163 s164 s165 s166 s167 s168 s169 s170 s171 s172 s173 s174 s175 s176 s177 s178 s179 s180 s181 s182 s183 s184 s185 s186 s187 s188 s189 s190 s191 s192 s193 s194 s195 s196 s197 s198 s199 s200 s201 s202 s203 s204 s205 s206 s207 s208 s209 s210 s211 s212 s213 s214 s215 s216 s217 s218 s219 p' w3 hk3 hpp' hpn' hax
      have hkr3 := Hkr2.out.trans' hk3
      have hOB3 := heap_kept hk3 HOB2.out
      have hst2 := Hst2.out
      rw [Hln.out, hax, Hmn.out, Int.toNat_natCast] at hst2
      have Hst3 := hide hst2
      have Hkr3 := hide hkr3
      have HOB3 := hide hOB3
      clear Hkr2 HOB2 hkr3 hOB3 hk3 y4 ly2 hax hst2 Hst2
      go_upto_block 4 with (fail)
      refine wp_at (fun W => W.heap[w3.heap.size]? = some (.cells (arr fun _ => 0) 106 (0, 0)) ∧ Kept w3 W) ⟨heap_at _ rfl, by go_grown⟩ (fun W hW => ?_)
      obtain ⟨hSB, hkW⟩ := hW
      have hne := heap_lt HOB3.out
      obtain ⟨SB, hSBd⟩ : ∃ SB, w3.heap.size = SB := ⟨_, rfl⟩
      have hSV : w.heap.size ≤ SB := by rw [← hSBd]; exact Hkr3.out.size
      rw [hSBd] at hSB hne
      simp only [hSBd]
      refine acc_eps (V := w) (l := l) (o := o) hl2.out hn0 hnc hcm hn4 hpn' (by omega) (by omega) (Hkr3.out.trans' hkW) (heap_kept hkW HOB3.out) hSB hOV hSV (Nat.ne_of_lt hne) _ ?_ ?_
      · intro s2 s9 s10 s11 s12 s13 s220 s221 s222 s223 s224 s225 s226 s227 s228 s229 s230 s231 s232 s233 s234 s235 s236 s237 s238 s239 s240 s241 s242 s243 s244 s245 s246 s247 s248 s249 s250 s251 s252 s253 s254 s255 s256 s257 s258 s259 s260 s261 s262 s263 s264 s265 s266 s267 s268 s269 s270 s271 s272 s273 s274 s275 s276 s277 s278 s279 s280 s281 s282 s283 s284 s285 s286 s287 s288 s289 s290 s291 s292 s293 s294 s295 s296 s297 s298 s299 s300 s301 s302 s303 s304 s305 s306 s307 s308 s309 s310 s311 s312 s313 s314 s315 s316 s317 s318 s319 s320 s321 s322 s323 s324 s325 s326 s327 s328 s329 s330 s331 s332 s333 s334 s335 s336 s337 s338 s339 s340 s341 s342 s343 s344 s345 s346 s347 p2 o2 w5 hk5 hp2 hp2n hob5 hacc
        have hst3 := Hst3.out
        rw [hacc] at hst3
        have Hst4 := hide hst3
        have Hk5 := hide hk5
        have Hob5 := hide hob5
        have Hle := hide (show p + 9 ≤ p2 by have := Hp9d.out; omega)
        clear hst3 Hst3 hacc hk5 hob5 hSB hkW hSBd hne
        go_wp2_with fail
        go_roundg (gk - (p2 - p))
        case measure => have := Hle.out; have := Hp.out; omega
        case rel => exact ⟨p2, f - 1, ifc, stp, o2, by have := Hp.out; have := Hle.out; omega, rfl, by (have hh := Hs2.out; first | rfl | go_num), rfl, Hk5.out, Hob5.out, hp2n, by have := Hle.out; omega, by have := Hs2.out; omega, by have := Hle.out; omega, by rw [← Hs2.out]; exact Hst4.out⟩
      · intro s6 s9 s10 s11 s12 s13 s220 s221 s222 s223 s224 s225 s226 s227 s228 s229 s230 s231 s232 s233 s234 s235 s236 s237 s238 s239 s240 s241 s242 s243 s244 s245 s246 s247 s248 s249 s250 s251 s252 s253 s254 s255 s256 s257 s258 s259 s260 s261 s262 s263 s264 s265 s266 s267 s268 s269 s270 s271 s272 s273 s274 s275 s276 s277 s278 s279 s280 s281 s282 s283 s284 s285 s286 s287 s288 s289 s290 s291 s292 s293 s294 s295 s296 s297 s298 s299 s300 s301 s302 s303 s304 s305 s306 s307 s308 s309 s310 s311 s312 s313 s314 s315 s316 s317 s318 s319 s320 s321 s322 s323 s324 s325 s326 s327 s328 s329 s330 s331 s332 s333 s334 s335 s336 s337 s338 s339 s340 s341 s342 s343 s344 s345 s346 s347 w5 hk5 hnone
        have hst3 := Hst3.out
        rw [hnone] at hst3
        have HN := hide (HACC.out _ hst3)
        clear hst3 Hst3 hnone
        go_ret
        exact ⟨by rw [HN.out]; rfl, hk5⟩
end Go.Proofs.YtjgncofhobhjdaaDoor
