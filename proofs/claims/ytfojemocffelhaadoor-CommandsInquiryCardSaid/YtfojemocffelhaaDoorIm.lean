



/- CommandsInquiry: the bytes. -/
import Derived.Test.YtfojemocffelhaaDoorChecked
import Derived.Deep.RegionHeld3
import Derived.Deep.DrawnRows
import Derived.Deep.DeepCutAuto
import Derived.Deep.LoopGhost
import Derived.Outline
import Derived.Handy
import Derived.OwnWalk
import Derived.IntWalk
import Derived.Deep.QuietTactic
import Derived.BigQuiet
import Derived.Test.YtfojemocffelhaaDoorIl
set_option linter.unusedVariables false
set_option linter.unusedSimpArgs false
set_option linter.unusedSectionVars false
namespace Go.Proofs.YtfojemocffelhaaDoor
open Go.RowKit Go.Shelf
attribute [local go_sem ↓] Go.wp_at_zero Go.wp_at_succ

set_option maxRecDepth 1000000 in
set_option maxHeartbeats 8000000 in
theorem inqB3 {u0 u2 u3 u4 u6 u7 u8 u9 u10 u11 u12 u13 u14 u15 u16 u17 u18 u19 u20 u21 u22 u23 u24 u25 u26 u27 u28 u29 u30 u31 u32 u33 u34 u35 u36 u37 u38 u39 u40 u41 u42 u43 u44 u45 u46 u47 u48 u49 u50 u51 u52 u53 u54 u55 u56 u57 u58 u59 u60 u61 u62 u63 u64 u65 u66 u67 u68 u69 u70 u71 u72 u73 u74 u75 u76 u77 u78 u79 u80 u81 u82 u83 u84 u85 u86 u87 u88 u89 u90 u91 u92 u93 u94 u95 u96 u97 u98 u99 u100 u101 u102 u103 u104 u105 u106 u107 u108 u109 u110 u111 u112 u113 u114 u115 u116 u117 u118 u119 u120 u121 u122 u123 u124 u125 u126 u127 u128 u129 u130 u131 u132 u133 u134 u135 u136 u137 u138 u139 u140 u141 u142 u143 u144 u145 u146 u147 u148 u149 u150 u151 u152 u153 u154 u155 u156 u157 u158 u159 u160 u161 u162 u163 u164 u165 u166 u167 u168 u169 u170 u171 u172 u173 u174 u175 u176 u177 u178 u179 u180 u181 u182 u183 u184 u185 u186 u187 u188 u189 u190 u191 u192 u193 u194 u195 u196 u197 u198 u199 u200 u201 u202 u203 u204 u205 u206 u207 u208 u209 u210 u211 u212 u213 u214 u215 u216 u217 u218 u219 u220 u221 u222 u223 u224 u225 u226 u227 u228 u229 u230 u231 u232 u233 u234 u235 u236 u237 u238 u239 u240 u241 u242 u243 u244 u245 u246 u247 u248 u249 u250 u251 u252 u253 u254 u255 u256 u257 u258 u259 u260 u261 u262 u263 u264 u265 u266 u267 u268 u269 u270 u271 u272 u273 u274 u275 u276 u277 u278 u279 u280 u281 u282 u283 u284 u285 u286 u287 u288 u289 u290 u291 u292 u293 u294 u295 u296 u297 u298 u299 u300 u301 u302 u303 u304 u305 u306 u307 u308 u309 u310 u311 u312 u313 u314 u315 u316 u317 u318 u319 u320 u321 u322 u323 u324 : Value} (b off : Nat) (n c : Nat) (bs : List UInt8) (Y y z : Nat) (w W : World) (hT : Tabs W) (hy : y < 4294967296) (hz : z < 4294967296) (hby : W.heap[Y]? = some (.cells #[.int .u32 y, .int .u32 z] 57 (0, 0))) (hkW : Kept w W) (hn : 36 ≤ n) (hnc : n ≤ c)
    (hl : bs.length = n) (hB : Bs W b off bs) (hx0 : bs[0]? = some 0) (hpr : prL ((bs.drop 8).take 28) = false) 
    (K : Act → World → Prop) (hK : ∀ a w', Code.wp Tryd.prog (restC codeB) (bodyPost Tryd.prog Tryd.f7 fun e w' => e = .returned (.bool true) ∧ Kept w w') a w' → K a w') :
    Code.wp Tryd.prog (headC codeB) (Exit.then K (bodyPost Tryd.prog Tryd.f7 fun e w' => e = .returned (.bool true) ∧ Kept w w')) ⟨#[u0, .slice (some ⟨b, off, none⟩) n c, u2, u3, u4, .pointer (some ⟨Y, 0, none⟩), u6, u7, u8, u9, u10, u11, u12, u13, u14, u15, u16, u17, u18, u19, u20, u21, u22, u23, u24, u25, u26, u27, u28, u29, u30, u31, u32, u33, u34, u35, u36, u37, u38, u39, u40, u41, u42, u43, u44, u45, u46, u47, u48, u49, u50, u51, u52, u53, u54, u55, u56, u57, u58, u59, u60, u61, u62, u63, u64, u65, u66, u67, u68, u69, u70, u71, u72, u73, u74, u75, u76, u77, u78, u79, u80, u81, u82, u83, u84, u85, u86, u87, u88, u89, u90, u91, u92, u93, u94, u95, u96, u97, u98, u99, u100, u101, u102, u103, u104, u105, u106, u107, u108, u109, u110, u111, u112, u113, u114, u115, u116, u117, u118, u119, u120, u121, u122, u123, u124, u125, u126, u127, u128, u129, u130, u131, u132, u133, u134, u135, u136, u137, u138, u139, u140, u141, u142, u143, u144, u145, u146, u147, u148, u149, u150, u151, u152, u153, u154, u155, u156, u157, u158, u159, u160, u161, u162, u163, u164, u165, u166, u167, u168, u169, u170, u171, u172, u173, u174, u175, u176, u177, u178, u179, u180, u181, u182, u183, u184, u185, u186, u187, u188, u189, u190, u191, u192, u193, u194, u195, u196, u197, u198, u199, u200, u201, u202, u203, u204, u205, u206, u207, u208, u209, u210, u211, u212, u213, u214, u215, u216, u217, u218, u219, u220, u221, u222, u223, u224, u225, u226, u227, u228, u229, u230, u231, u232, u233, u234, u235, u236, u237, u238, u239, u240, u241, u242, u243, u244, u245, u246, u247, u248, u249, u250, u251, u252, u253, u254, u255, u256, u257, u258, u259, u260, u261, u262, u263, u264, u265, u266, u267, u268, u269, u270, u271, u272, u273, u274, u275, u276, u277, u278, u279, u280, u281, u282, u283, u284, u285, u286, u287, u288, u289, u290, u291, u292, u293, u294, u295, u296, u297, u298, u299, u300, u301, u302, u303, u304, u305, u306, u307, u308, u309, u310, u311, u312, u313, u314, u315, u316, u317, u318, u319, u320, u321, u322, u323, u324], []⟩ W := by
  conv => arg 2; whnf
  conv at hK => enter [a, w', 1, 2]; whnf
  have hnI : (36 : Int) ≤ (n : Int) := by omega
  have hnP : (0 : Int) < (n : Int) := by omega
  go_upto_region 19 with (go_at_call 23; refine (dinq_bad b off n c bs _ hl hn hnc hB (hB.2 0 0 hx0) hpr).mono ?_; rintro e w1 ⟨rfl, hk1⟩)
  refine wp_at (fun WE => WE.heap[Y]? = some (.cells #[.int .u32 y, .int .u32 z] 57 (0, 0)) ∧ WE.heap[w1.heap.size]? = some (.cells #[.string ⟨#[]⟩, .string ⟨#[]⟩, .string ⟨#[]⟩, .bool false] 55 (0, 0)) ∧ Bs WE b off bs ∧ Kept W WE)
    ⟨heap_past (heap_kept hk1 hby), heap_at _ rfl, hB.kept (hk1.trans ((Below.refl _ _).alloc hk1.size _)), hk1.trans ((Below.refl _ _).alloc hk1.size _)⟩ (fun WE hWE => ?_)
  obtain ⟨hbyE, hgE, hBE, hkE⟩ := hWE
  obtain ⟨G, hG⟩ : ∃ G, w1.heap.size = G := ⟨_, rfl⟩
  rw [hG] at hgE ⊢
  have cg0 := cell_heap (o := 0) hgE rfl
  have cg1 := cell_heap (o := 1) hgE rfl
  have cg2 := cell_heap (o := 2) hgE rfl
  have cg3 := cell_heap (o := 3) hgE rfl
  have lG := heap_lt hgE
  have lb := hBE.1
  have c0 : WE.cell? ⟨b, off, none⟩ = some (.int .u8 0) := hBE.2 0 0 hx0
  clear hG hk1 hgE w1 hby hB hx0
  replace hbyE := Lib.hid hbyE
  replace hBE := Lib.hid hBE
  replace hl := Lib.hid hl
  replace hpr := Lib.hid hpr
  go_wp2_with fail
  go_loopg [14, 15] 28 (fun g s14 s15 wr => ∃ k : Nat, k + g = 28 ∧ s15 = .int .i64 (8 + (k : Int)) ∧ s14 = .bool (!prL ((bs.drop 8).take k)) ∧ wr = WE)
  case atStart => exact ⟨0, by omega, by rfl, by rfl, rfl⟩
  case round =>
    obtain ⟨k, hk, rfl, hq, rfl⟩ := hrel
    by_cases hlt : k < 28
    · have hlt' : 8 + (k : Int) < 36 := by omega
      have hltn : 8 + (k : Int) < (n : Int) := by omega
      have hk8 : (0 : Int) ≤ 8 + (k : Int) := by omega
      obtain ⟨x, hx⟩ : ∃ x, (bs.drop 8)[k]? = some x := ⟨_, List.getElem?_eq_getElem (by have := hl.out; simp; omega)⟩
      have hcx := (hBE.out.drop 8).2 k x hx
      rw [Nat.add_assoc] at hcx
      have htk := Lib.hid (take_ok hx)
      clear hx
      by_cases hb0 : prL ((bs.drop 8).take k) = true
      · rw [hb0] at hq
        subst hq
        replace hb0 := Lib.hid hb0
        by_cases hlo : (x.toNat : Int) < 32
        · have ho : okb x = false := by simp only [okb, Bool.and_eq_false_iff, decide_eq_false_iff_not]; omega
          replace ho := Lib.hid ho
          go_wp2_with fail
          go_roundg (gk - 1)
          case measure => omega
          case rel => exact ⟨k + 1, by omega, by go_num, by rw [htk.out, ho.out, Bool.and_false]; rfl, rfl⟩
        · have hlo' : 32 ≤ (x.toNat : Int) := by omega
          by_cases hhi : 126 < (x.toNat : Int)
          · have ho : okb x = false := by simp only [okb, Bool.and_eq_false_iff, decide_eq_false_iff_not]; omega
            replace ho := Lib.hid ho
            go_wp2_with fail
            go_roundg (gk - 1)
            case measure => omega
            case rel => exact ⟨k + 1, by omega, by go_num, by rw [htk.out, ho.out, Bool.and_false]; rfl, rfl⟩
          · have hhi' : (x.toNat : Int) ≤ 126 := by omega
            have ho : okb x = true := by simp only [okb, Bool.and_eq_true, decide_eq_true_eq]; omega
            replace ho := Lib.hid ho
            go_wp2_with fail
            go_roundg (gk - 1)
            case measure => omega
            case rel => exact ⟨k + 1, by omega, by go_num, by rw [htk.out, ho.out, hb0.out]; rfl, rfl⟩
      · have hb0 : prL ((bs.drop 8).take k) = false := by simpa using hb0
        rw [hb0] at hq
        simp only [Bool.not_false, Bool.not_true] at hq
        subst hq
        replace hb0 := Lib.hid hb0
        go_wp2_with fail
        go_roundg (gk - 1)
        case measure => omega
        case rel => exact ⟨k + 1, by omega, by go_num, by rw [htk.out, hb0.out, Bool.false_and]; rfl, rfl⟩
    · have hk28 : k = 28 := by omega
      rw [hk28, hpr.out] at hq
      simp only [Bool.not_false, Bool.not_true] at hq
      subst hq
      clear hk28
      have hlt' : 36 ≤ 8 + (k : Int) := by omega
      go_wp2_with fail
      go_quiet (fail)
      have hkQ : Kept wr (wr.drewN nq) := below_drewN (Below.refl _ _) nq
      have hkF := hkE.trans (hkQ.mono hkE.size)
      have hbyF := heap_kept hkQ hbyE.out
      go_upto_region 26 with fail
      refine inqC Y y z w _ (hT.kept hkF) hy hz hbyF (hkW.trans (hkF.mono hkW.size)) _ ?_
      assumption
end Go.Proofs.YtfojemocffelhaaDoor
