/- The law reader, its loops. -/
import Derived.Test.YtjgncofhobhjdaaDoorChecked
import Derived.Deep.RegionHeld3
import Derived.Deep.DrawnRows
import Derived.Deep.DeepCutAuto
import Derived.Deep.LoopGhost
import Derived.Outline
import Derived.Handy
import Derived.OwnWalk
import Derived.BigQuiet
import Derived.Test.YtjgncofhobhjdaaDoorN4
import Derived.Test.YtjgncofhobhjdaaDoorN3
import Derived.Test.YtjgncofhobhjdaaDoorN1
import Derived.Deep.CutBlock
import Derived.Test.YtjgncofhobhjdaaDoorN5
import Derived.Test.YtjgncofhobhjdaaDoorN22
set_option linter.unusedVariables false
set_option linter.unusedSimpArgs false
set_option linter.unusedSectionVars false
/- accepted as data, read off places: what is skipped, the endpoints, the loop. No condition but those named. -/
namespace Go.Proofs.YtjgncofhobhjdaaDoor
open Go.RowKit

/-- the code at a block, wherever it stands -/
def findB (k : Nat) : Code → Option Code
  | .seq a c => (findB k a).orElse fun _ => findB k c
  | .block i c => if i = k then some (.block i c) else findB k c
  | .scope c => findB k c
  | .loop c => findB k c
  | .cond _ c e => (findB k c).orElse fun _ => findB k e
  | _ => none
theorem drop_byte {l : List Int} {p : Nat} (h : p < l.length) : l.drop p = byteAt l p :: l.drop (p + 1) := by
  rw [List.drop_eq_getElem_cons h]
  congr 1
  unfold byteAt
  rw [List.getD_eq_getElem?_getD, List.getElem?_eq_getElem h]
  rfl
theorem drop_len {l : List Int} {p : Nat} : (l.drop p).length = l.length - p := List.length_drop
theorem accX_end (f : Nat) : accX f [] = [] := by cases f <;> rfl
theorem accX_stop {l : List Int} {p : Nat} (f : Nat) (h : p + 1 < l.length → ¬ (1 < byteAt l p ∧ byteAt l p ≤ ((l.length - p : Nat) : Int) ∧ stdS (byteAt l (p + 1)) = false)) : accX f (l.drop p) = l.drop p := by
  cases f with
  | zero => rfl
  | succ f =>
    by_cases h0 : p < l.length
    · rw [drop_byte h0]
      by_cases h1 : p + 1 < l.length
      · rw [drop_byte h1, accX]
        have hl : (byteAt l p :: byteAt l (p + 1) :: l.drop (p + 1 + 1)).length = l.length - p := by
          rw [← drop_byte h1, ← drop_byte h0, drop_len]
        rw [hl, if_neg (h h1)]
      · rw [List.drop_of_length_le (by omega)]
        rfl
    · rw [List.drop_of_length_le (by omega)]
      rfl
theorem accX_step {l : List Int} {p : Nat} (f : Nat) (h1 : p + 1 < l.length) (h : 1 < byteAt l p ∧ byteAt l p ≤ ((l.length - p : Nat) : Int) ∧ stdS (byteAt l (p + 1)) = false) : accX (f + 1) (l.drop p) = accX f (l.drop (p + (byteAt l p).toNat)) := by
  have hl : (byteAt l p :: byteAt l (p + 1) :: l.drop (p + 1 + 1)).length = l.length - p := by
    rw [← drop_byte h1, ← drop_byte (by omega), drop_len]
  have hd : (byteAt l p :: byteAt l (p + 1) :: l.drop (p + 1 + 1)).drop (byteAt l p).toNat = l.drop (p + (byteAt l p).toNat) := by
    rw [← drop_byte h1, ← drop_byte (by omega), List.drop_drop]
  conv => lhs; rw [drop_byte (l := l) (p := p) (by omega), drop_byte h1, accX]
  rw [hl, if_pos h, hd]
theorem drop7 {l : List Int} {p : Nat} (h : p + 7 ≤ l.length) : l.drop p = byteAt l p :: byteAt l (p + 1) :: byteAt l (p + 2) :: byteAt l (p + 3) :: byteAt l (p + 4) :: byteAt l (p + 5) :: byteAt l (p + 6) :: l.drop (p + 7) := by
  rw [drop_byte (l := l) (p := p) (by omega), drop_byte (l := l) (p := p + 1) (by omega), drop_byte (l := l) (p := p + 1 + 1) (by omega), drop_byte (l := l) (p := p + 1 + 1 + 1) (by omega), drop_byte (l := l) (p := p + 1 + 1 + 1 + 1) (by omega), drop_byte (l := l) (p := p + 1 + 1 + 1 + 1 + 1) (by omega), drop_byte (l := l) (p := p + 1 + 1 + 1 + 1 + 1 + 1) (by omega)]
theorem drop9 {l : List Int} {p : Nat} (h : p + 9 ≤ l.length) : l.drop p = byteAt l p :: byteAt l (p + 1) :: byteAt l (p + 2) :: byteAt l (p + 3) :: byteAt l (p + 4) :: byteAt l (p + 5) :: byteAt l (p + 6) :: byteAt l (p + 7) :: byteAt l (p + 8) :: l.drop (p + 9) := by
  rw [drop7 (l := l) (p := p) (by omega), drop_byte (l := l) (p := p + 7) (by omega), drop_byte (l := l) (p := p + 7 + 1) (by omega)]
theorem accEps_step {l : List Int} {p : Nat} (h : p + 7 ≤ l.length) (k : Nat) (s : Int → Bool) (o : Int → Nat) (ifc : Nat) :
    accEps (k + 1) (l.drop p) s o ifc = if epBad (byteAt l p) (byteAt l (p + 1)) (byteAt l (p + 2)) (byteAt l (p + 3)) (byteAt l (p + 4) + 256 * byteAt l (p + 5)) (byteAt l (p + 6)) s o ifc then none
      else accEps k (l.drop (p + 7)) (fun x => if x = byteAt l (p + 2) then true else s x) (fun x => if x = byteAt l (p + 2) then ifc else o x) ifc := by
  rw [drop7 h]
  rfl
theorem accEps_short {l : List Int} {p : Nat} (h : l.length < p + 7) (k : Nat) (s : Int → Bool) (o : Int → Nat) (ifc : Nat) : accEps (k + 1) (l.drop p) s o ifc = none := by
  have hl : (l.drop p).length < 7 := by rw [drop_len]; omega
  generalize l.drop p = r at hl
  match r, hl with
  | [], _ => rfl
  | [_], _ => rfl
  | [_, _], _ => rfl
  | [_, _, _], _ => rfl
  | [_, _, _, _], _ => rfl
  | [_, _, _, _, _], _ => rfl
  | [_, _, _, _, _, _], _ => rfl
  | _ :: _ :: _ :: _ :: _ :: _ :: _ :: _, h => simp at h; omega
theorem accEps_zero (r : List Int) (s : Int → Bool) (o : Int → Nat) (ifc : Nat) : accEps 0 r s o ifc = some (r, o) := by
  unfold accEps; rfl
theorem accLoop_end (f ifc set : Nat) (o : Int → Nat) : accLoop (f + 1) [] ifc set o = some ifc := rfl
theorem accLoop_short {l : List Int} {p : Nat} (h0 : p < l.length) (h : l.length < p + 9) (f ifc set : Nat) (o : Int → Nat) : accLoop (f + 1) (l.drop p) ifc set o = none := by
  have hl : (l.drop p).length < 9 := by rw [drop_len]; omega
  have h1 : (l.drop p).length ≠ 0 := by rw [drop_len]; omega
  generalize l.drop p = r at hl h1
  match r, hl, h1 with
  | [], _, h => exact absurd rfl h
  | [_], _, _ => rfl
  | [_, _], _, _ => rfl
  | [_, _, _], _, _ => rfl
  | [_, _, _, _], _, _ => rfl
  | [_, _, _, _, _], _, _ => rfl
  | [_, _, _, _, _, _], _, _ => rfl
  | [_, _, _, _, _, _, _], _, _ => rfl
  | [_, _, _, _, _, _, _, _], _, _ => rfl
  | _ :: _ :: _ :: _ :: _ :: _ :: _ :: _ :: _ :: _, h, _ => simp at h; omega
theorem accLoop_step {l : List Int} {p : Nat} (h : p + 9 ≤ l.length) (f ifc set ifc' set' : Nat) (o : Int → Nat) (hi : (if byteAt l (p + 3) = 0 then ifc + 1 else ifc) = ifc') (hs : (if byteAt l (p + 3) = 0 then 0 else set) = set') :
    accLoop (f + 1) (l.drop p) ifc set o = if byteAt l p ≠ 9 ∨ byteAt l (p + 1) ≠ 4 ∨ 30 < byteAt l (p + 4) then none
      else if ifc' = 0 ∨ byteAt l (p + 2) ≠ (ifc' : Int) - 1 ∨ byteAt l (p + 3) ≠ (set' : Int) ∨ 15 < set' then none
      else (accEps (byteAt l (p + 4)).toNat (accX (l.length - (p + 9)) (l.drop (p + 9))) (fun _ => false) o ifc').bind fun q => accLoop f q.1 ifc' (set' + 1) q.2 := by
  subst hi hs
  rw [drop9 h, accLoop, drop_len]
theorem accB_short {l : List Int} (h : l.length < 9) : accB l = false := by
  match l, h with
  | [], _ => rfl
  | [_], _ => rfl
  | [_, _], _ => rfl
  | [_, _, _], _ => rfl
  | [_, _, _, _], _ => rfl
  | [_, _, _, _, _], _ => rfl
  | [_, _, _, _, _, _], _ => rfl
  | [_, _, _, _, _, _, _], _ => rfl
  | [_, _, _, _, _, _, _, _], _ => rfl
  | _ :: _ :: _ :: _ :: _ :: _ :: _ :: _ :: _ :: _, h => simp at h; omega
theorem accB_eq {l : List Int} (h : 9 ≤ l.length) : accB l = (decide (byteAt l 0 = 9) && decide (byteAt l 1 = 2) && decide (byteAt l 2 + 256 * byteAt l 3 = (l.length : Int)) && decide (1 ≤ byteAt l 4) && decide (byteAt l 4 ≤ 16) && decide (1 ≤ byteAt l 5) && decide (128 ≤ byteAt l 7) && decide (byteAt l 7 % 32 = 0) && decide (byteAt l 8 ≤ 250) &&
      (match accLoop (l.length - 9 + 1) (l.drop 9) 0 0 (fun _ => 0) with | some n => decide ((n : Int) = byteAt l 4) | none => false)) := by
  have hd := drop9 (l := l) (p := 0) (by omega)
  rw [List.drop_zero] at hd
  conv => lhs; rw [hd]
  show (_ && _ && decide (_ = ((byteAt l 0 :: byteAt l (0 + 1) :: byteAt l (0 + 2) :: byteAt l (0 + 3) :: byteAt l (0 + 4) :: byteAt l (0 + 5) :: byteAt l (0 + 6) :: byteAt l (0 + 7) :: byteAt l (0 + 8) :: l.drop (0 + 9)).length : Int)) && _ && _ && _ && _ && _ && _ && _) = _
  rw [← hd, drop_len]
  simp only [Nat.zero_add]
  rfl
/-- a table of 256 numbers -/
def arr (f : Int → Nat) : Array Value := ((List.range 256).map fun a : Nat => Value.int .i64 ((f (a : Int) : Nat) : Int)).toArray
theorem arr_at (f : Int → Nat) {a : Nat} (h : a < 256) : (arr f)[a]? = some (.int .i64 ((f (a : Int) : Nat) : Int)) := by
  unfold arr
  rw [List.getElem?_toArray, List.getElem?_map, List.getElem?_range h]
  rfl
theorem arr_size (f : Int → Nat) : (arr f).size = 256 := by unfold arr; simp
theorem arr_set (f : Int → Nat) {a : Nat} (h : a < 256) (v : Nat) : (arr f).setIfInBounds a (.int .i64 (v : Int)) = arr fun x => if x = (a : Int) then v else f x := by
  apply Array.ext_getElem?
  intro j
  rw [Array.getElem?_setIfInBounds]
  by_cases hj : j < 256
  · by_cases e : a = j
    · subst e
      rw [if_pos rfl, if_pos (by rw [arr_size]; exact h), arr_at _ h, if_pos rfl]
    · rw [if_neg e, arr_at f hj, arr_at _ hj, if_neg (by omega)]
  · rw [Array.getElem?_eq_none (xs := arr _) (by rw [arr_size]; omega)]
    split
    · rename_i e; omega
    · rw [Array.getElem?_eq_none (by rw [arr_size]; omega)]
end Go.Proofs.YtjgncofhobhjdaaDoor
/- accepted: what is skipped. Printed by gen_aa.py. -/
namespace Go.Proofs.YtjgncofhobhjdaaDoor
open Go.RowKit
attribute [local go_sem ↓] Go.wp_at_zero Go.wp_at_succ

noncomputable def codeB2a : Code := (Tryd.f20.body.bind (findB 2)).getD .skip
set_option maxRecDepth 1000000 in
set_option maxHeartbeats 16000000 in
theorem acc_skip {u1 u2 u3 u4 u5 u7 u8 u9 u10 u11 u12 u13 u14 u15 u16 u17 u18 u19 u20 u21 u22 u23 u24 u25 u26 u27 u28 u29 u30 u31 u32 u33 u34 u35 u36 u37 u38 u39 u40 u41 u42 u43 u44 u45 u46 u47 u48 u49 u50 u51 u52 u53 u54 u55 u56 u57 u58 u59 u60 u61 u62 u63 u64 u65 u66 u67 u68 u69 u70 u71 u72 u73 u74 u75 u76 u77 u78 u79 u80 u81 u82 u83 u84 u85 u86 u87 u88 u89 u90 u91 u92 u93 u94 u95 u96 u97 u98 u99 u100 u101 u102 u103 u104 u105 u106 u107 u108 u109 u110 u111 u112 u113 u114 u115 u116 u117 u118 u119 u120 u121 u122 u123 u124 u125 u126 u127 u128 u129 u130 u131 u132 u133 u134 u135 u136 u137 u138 u139 u140 u141 u142 u143 u144 u145 u146 u147 u148 u149 u150 u151 u152 u153 u154 u155 u156 u157 u158 u159 u160 u161 u162 u163 u164 u165 u166 u167 u168 u169 u170 u171 u172 u173 u174 u175 u176 u177 u178 u179 u180 u181 u182 u183 u184 u185 u186 u187 u188 u189 u190 u191 u192 u193 u194 u195 u196 u197 u198 u199 u200 u201 u202 u203 u204 u205 u206 u207 u208 u209 u210 u211 u212 u213 u214 u215 u216 u217 u218 u219 u220 u221 u222 u223 u224 u225 u226 u227 u228 u229 u230 u231 u232 u233 u234 u235 u236 u237 u238 u239 u240 u241 u242 u243 u244 u245 u246 u247 u248 u249 u250 u251 u252 u253 u254 u255 u256 u257 u258 u259 u260 u261 u262 u263 u264 u265 u266 u267 u268 u269 u270 u271 u272 u273 u274 u275 u276 u277 u278 u279 u280 u281 u282 u283 u284 u285 u286 u287 u288 u289 u290 u291 u292 u293 u294 u295 u296 u297 u298 u299 u300 u301 u302 u303 u304 u305 u306 u307 u308 u309 u310 u311 u312 u313 u314 u315 u316 u317 u318 u319 u320 u321 u322 u323 u324 u325 u326 u327 u328 u329 u330 u331 u332 u333 u334 u335 u336 u337 u338 u339 u340 u341 u342 u343 u344 u345 u346 u347 u348 u349 u350 u351 u352 u353 : Value} {b off n c p0 : Nat} {l : List Int} {wr : World} (hl : Sl u8T wr (low wr.heap.size) (some ⟨b, off, none⟩) n l) (hn0 : 0 < n) (hnc : n ≤ c) (hcm : c ≤ maxLen) (hn4 : n ≤ 10000) (hp0 : p0 ≤ n)
    (Q : Exit → Act → World → Prop) (hQ : ∀ (s158 s159 s160 s161 s162 s163 s164 s165 s166 s167 s168 s169 s170 s171 s172 s173 s174 s175 s176 s177 s178 s179 s180 s181 s182 s183 s184 s185 s186 s187 s188 s189 s190 s191 s192 s193 s194 s195 s196 s197 s198 s199 s200 s201 s202 s203 s204 s205 s206 s207 s208 s209 s210 s211 s212 s213 s214 s215 s216 s217 s218 s219 : Value) (p' : Nat) (w' : World), Kept wr w' → p0 ≤ p' → p' ≤ n → accX (n - p0) (l.drop p0) = l.drop p' → Q .normal ⟨#[.slice (some ⟨b, off, none⟩) n c, u1, u2, u3, u4, u5, (.int .i64 ((p' : Nat) : Int)), u7, u8, u9, u10, u11, u12, u13, u14, u15, u16, u17, u18, u19, u20, u21, u22, u23, u24, u25, u26, u27, u28, u29, u30, u31, u32, u33, u34, u35, u36, u37, u38, u39, u40, u41, u42, u43, u44, u45, u46, u47, u48, u49, u50, u51, u52, u53, u54, u55, u56, u57, u58, u59, u60, u61, u62, u63, u64, u65, u66, u67, u68, u69, u70, u71, u72, u73, u74, u75, u76, u77, u78, u79, u80, u81, u82, u83, u84, u85, u86, u87, u88, u89, u90, u91, u92, u93, u94, u95, u96, u97, u98, u99, u100, u101, u102, u103, u104, u105, u106, u107, u108, u109, u110, u111, u112, u113, u114, u115, u116, u117, u118, u119, u120, u121, u122, u123, u124, u125, u126, u127, u128, u129, u130, u131, u132, u133, u134, u135, u136, u137, u138, u139, u140, u141, u142, u143, u144, u145, u146, u147, u148, u149, u150, u151, u152, u153, u154, u155, u156, u157, s158, s159, s160, s161, s162, s163, s164, s165, s166, s167, s168, s169, s170, s171, s172, s173, s174, s175, s176, s177, s178, s179, s180, s181, s182, s183, s184, s185, s186, s187, s188, s189, s190, s191, s192, s193, s194, s195, s196, s197, s198, s199, s200, s201, s202, s203, s204, s205, s206, s207, s208, s209, s210, s211, s212, s213, s214, s215, s216, s217, s218, s219, u220, u221, u222, u223, u224, u225, u226, u227, u228, u229, u230, u231, u232, u233, u234, u235, u236, u237, u238, u239, u240, u241, u242, u243, u244, u245, u246, u247, u248, u249, u250, u251, u252, u253, u254, u255, u256, u257, u258, u259, u260, u261, u262, u263, u264, u265, u266, u267, u268, u269, u270, u271, u272, u273, u274, u275, u276, u277, u278, u279, u280, u281, u282, u283, u284, u285, u286, u287, u288, u289, u290, u291, u292, u293, u294, u295, u296, u297, u298, u299, u300, u301, u302, u303, u304, u305, u306, u307, u308, u309, u310, u311, u312, u313, u314, u315, u316, u317, u318, u319, u320, u321, u322, u323, u324, u325, u326, u327, u328, u329, u330, u331, u332, u333, u334, u335, u336, u337, u338, u339, u340, u341, u342, u343, u344, u345, u346, u347, u348, u349, u350, u351, u352, u353], []⟩ w') :
    Code.wp Tryd.prog codeB2a Q ⟨#[.slice (some ⟨b, off, none⟩) n c, u1, u2, u3, u4, u5, .int .i64 p0, u7, u8, u9, u10, u11, u12, u13, u14, u15, u16, u17, u18, u19, u20, u21, u22, u23, u24, u25, u26, u27, u28, u29, u30, u31, u32, u33, u34, u35, u36, u37, u38, u39, u40, u41, u42, u43, u44, u45, u46, u47, u48, u49, u50, u51, u52, u53, u54, u55, u56, u57, u58, u59, u60, u61, u62, u63, u64, u65, u66, u67, u68, u69, u70, u71, u72, u73, u74, u75, u76, u77, u78, u79, u80, u81, u82, u83, u84, u85, u86, u87, u88, u89, u90, u91, u92, u93, u94, u95, u96, u97, u98, u99, u100, u101, u102, u103, u104, u105, u106, u107, u108, u109, u110, u111, u112, u113, u114, u115, u116, u117, u118, u119, u120, u121, u122, u123, u124, u125, u126, u127, u128, u129, u130, u131, u132, u133, u134, u135, u136, u137, u138, u139, u140, u141, u142, u143, u144, u145, u146, u147, u148, u149, u150, u151, u152, u153, u154, u155, u156, u157, u158, u159, u160, u161, u162, u163, u164, u165, u166, u167, u168, u169, u170, u171, u172, u173, u174, u175, u176, u177, u178, u179, u180, u181, u182, u183, u184, u185, u186, u187, u188, u189, u190, u191, u192, u193, u194, u195, u196, u197, u198, u199, u200, u201, u202, u203, u204, u205, u206, u207, u208, u209, u210, u211, u212, u213, u214, u215, u216, u217, u218, u219, u220, u221, u222, u223, u224, u225, u226, u227, u228, u229, u230, u231, u232, u233, u234, u235, u236, u237, u238, u239, u240, u241, u242, u243, u244, u245, u246, u247, u248, u249, u250, u251, u252, u253, u254, u255, u256, u257, u258, u259, u260, u261, u262, u263, u264, u265, u266, u267, u268, u269, u270, u271, u272, u273, u274, u275, u276, u277, u278, u279, u280, u281, u282, u283, u284, u285, u286, u287, u288, u289, u290, u291, u292, u293, u294, u295, u296, u297, u298, u299, u300, u301, u302, u303, u304, u305, u306, u307, u308, u309, u310, u311, u312, u313, u314, u315, u316, u317, u318, u319, u320, u321, u322, u323, u324, u325, u326, u327, u328, u329, u330, u331, u332, u333, u334, u335, u336, u337, u338, u339, u340, u341, u342, u343, u344, u345, u346, u347, u348, u349, u350, u351, u352, u353], []⟩ wr := by
  unfold maxLen at hcm
  obtain ⟨b', off', hbo, hbl0, hcx0⟩ := sl_bytes hl hn0
  injection hbo with hbo
  injection hbo with hb1 hb2 _
  subst hb1 hb2
  have h8 := sl_byte8 hl
  have hln := hl.1
  have HQ := hide hQ
  have H8 := hide h8
  clear hQ h8 hl
  obtain ⟨w0, rfl⟩ : ∃ w0, w0 = wr := ⟨_, rfl⟩
  have Hcx0 := hide hcx0
  clear hcx0
  conv => arg 2; whnf
  go_wp2_with fail
  go_loopg [6] (n - p0) (fun g s6 wx => ∃ (p f : Nat), p + g = n ∧ s6 = .int .i64 p ∧ Kept w0 wx ∧ p0 ≤ p ∧ p ≤ n ∧ n ≤ p + f ∧ accX (n - p0) (l.drop p0) = accX f (l.drop p))
  case atStart => exact ⟨p0, n - p0, by omega, rfl, Below.refl _ _, Nat.le_refl _, hp0, by omega, rfl⟩
  case round =>
    obtain ⟨p, f, hp, rfl, hkr, hpp, hpn, hf, hrel⟩ := hrel
    have hbl := Nat.lt_of_lt_of_le hbl0 hkr.size
    have hcx : ∀ i, i < n → wr.cell? ⟨b, off + i, none⟩ = some (.int .u8 (byteAt l i)) := fun i hi => (hkr.cell (p := ⟨b, off + i, none⟩) hbl0).trans (Hcx0.out i hi)
    have Hcx := hide hcx
    clear hcx
    have Hp := hide hp
    have Hrel := hide hrel
    clear hp hrel
    by_cases hlt : p < n
    case neg =>
      have hge : (n : Int) ≤ (p : Int) := by omega
      have hge2 : ¬ (p : Int) < (n : Int) := by omega
      have hfin : accX (n - p0) (l.drop p0) = l.drop p := by rw [Hrel.out]; exact accX_stop f (fun hp1 hc => by omega)
      have HFin := hide hfin
      clear hfin
      try clear Hrel
      go_wp2_with fail
      exact HQ.out _ _ _ _ _ _ _ _ _ _ _ _ _ _ _ _ _ _ _ _ _ _ _ _ _ _ _ _ _ _ _ _ _ _ _ _ _ _ _ _ _ _ _ _ _ _ _ _ _ _ _ _ _ _ _ _ _ _ _ _ _ _ _ _ hkr hpp hpn HFin.out
    case pos =>
    have x0 := Hcx.out p hlt
    have hz8 := H8.out p
    obtain ⟨zn, hzn⟩ : ∃ zn : Nat, byteAt l p = (zn : Int) := ⟨(byteAt l p).toNat, by have := hz8.1; omega⟩
    have hz1 := hz8.2
    rw [hzn] at x0 hz1
    have Hz := hide hzn
    have hi0 : (0 : Int) ≤ (p : Int) := by omega
    have hj0 : (p : Int) < (n : Int) := by omega
    have hwz : IntKind.i64.wrap (zn : Int) = (zn : Int) := by rw [IntKind.wrap_i64]; omega
    have hwp : IntKind.i64.wrap ((p : Int) + (zn : Int)) = ((p + zn : Nat) : Int) := by rw [IntKind.wrap_i64]; omega
    clear hz8 hzn
    by_cases h1 : 1 < zn
    case pos =>
      have h1i : (1 : Int) < (zn : Int) := by omega
      by_cases h2 : p + zn ≤ n
      case pos =>
        have h2i : ((p + zn : Nat) : Int) ≤ (n : Int) := by omega
        have h2j : (p : Int) + (zn : Int) ≤ (n : Int) := by omega
        have hp1 : p + 1 < n := by omega
        have x1 := Hcx.out (p + 1) hp1
        obtain ⟨kk, hkk⟩ : ∃ kk, byteAt l (p + 1) = kk := ⟨_, rfl⟩
        rw [hkk] at x1
        have Hk := hide hkk
        clear hkk
        have hw1 : IntKind.i64.wrap ((p : Int) + 1) = ((p + 1 : Nat) : Int) := by rw [IntKind.wrap_i64]; omega
        have hi1 : (0 : Int) ≤ ((p + 1 : Nat) : Int) := by omega
        have hj1 : ((p + 1 : Nat) : Int) < (n : Int) := by omega
        have hk1 : (0 : Int) ≤ (p : Int) + 1 := by omega
        have hl1 : (p : Int) + 1 < (n : Int) := by omega
        have hm1 : ((p : Int) + 1).toNat = p + 1 := by omega
        by_cases k1 : kk = 1
        case pos =>
          have k1e : (kk == 1) = true := by simpa using k1
          have k1b : (kk != 1) = false := by simpa using k1
          have hkz := hide k1
          clear k1
          have hfin : accX (n - p0) (l.drop p0) = l.drop p := by rw [Hrel.out]; exact accX_stop f (fun hp1 hc => by rw [Hk.out, hkz.out] at hc; exact absurd hc.2.2 (by decide))
          have HFin := hide hfin
          clear hfin
          try clear Hrel
          go_wp2_with fail
          exact HQ.out _ _ _ _ _ _ _ _ _ _ _ _ _ _ _ _ _ _ _ _ _ _ _ _ _ _ _ _ _ _ _ _ _ _ _ _ _ _ _ _ _ _ _ _ _ _ _ _ _ _ _ _ _ _ _ _ _ _ _ _ _ _ _ _ hkr hpp hpn HFin.out
        case neg =>
        have k1e : (kk == 1) = false := by simpa using k1
        have k1b : (kk != 1) = true := by simpa using k1
        by_cases k2 : kk = 2
        case pos =>
          have k2e : (kk == 2) = true := by simpa using k2
          have k2b : (kk != 2) = false := by simpa using k2
          have hkz := hide k2
          clear k2
          have hfin : accX (n - p0) (l.drop p0) = l.drop p := by rw [Hrel.out]; exact accX_stop f (fun hp1 hc => by rw [Hk.out, hkz.out] at hc; exact absurd hc.2.2 (by decide))
          have HFin := hide hfin
          clear hfin
          try clear Hrel
          go_wp2_with fail
          exact HQ.out _ _ _ _ _ _ _ _ _ _ _ _ _ _ _ _ _ _ _ _ _ _ _ _ _ _ _ _ _ _ _ _ _ _ _ _ _ _ _ _ _ _ _ _ _ _ _ _ _ _ _ _ _ _ _ _ _ _ _ _ _ _ _ _ hkr hpp hpn HFin.out
        case neg =>
        have k2e : (kk == 2) = false := by simpa using k2
        have k2b : (kk != 2) = true := by simpa using k2
        by_cases k4 : kk = 4
        case pos =>
          have k4e : (kk == 4) = true := by simpa using k4
          have k4b : (kk != 4) = false := by simpa using k4
          have hkz := hide k4
          clear k4
          have hfin : accX (n - p0) (l.drop p0) = l.drop p := by rw [Hrel.out]; exact accX_stop f (fun hp1 hc => by rw [Hk.out, hkz.out] at hc; exact absurd hc.2.2 (by decide))
          have HFin := hide hfin
          clear hfin
          try clear Hrel
          go_wp2_with fail
          exact HQ.out _ _ _ _ _ _ _ _ _ _ _ _ _ _ _ _ _ _ _ _ _ _ _ _ _ _ _ _ _ _ _ _ _ _ _ _ _ _ _ _ _ _ _ _ _ _ _ _ _ _ _ _ _ _ _ _ _ _ _ _ _ _ _ _ hkr hpp hpn HFin.out
        case neg =>
        have k4e : (kk == 4) = false := by simpa using k4
        have k4b : (kk != 4) = true := by simpa using k4
        by_cases k5 : kk = 5
        case pos =>
          have k5e : (kk == 5) = true := by simpa using k5
          have k5b : (kk != 5) = false := by simpa using k5
          have hkz := hide k5
          clear k5
          have hfin : accX (n - p0) (l.drop p0) = l.drop p := by rw [Hrel.out]; exact accX_stop f (fun hp1 hc => by rw [Hk.out, hkz.out] at hc; exact absurd hc.2.2 (by decide))
          have HFin := hide hfin
          clear hfin
          try clear Hrel
          go_wp2_with fail
          exact HQ.out _ _ _ _ _ _ _ _ _ _ _ _ _ _ _ _ _ _ _ _ _ _ _ _ _ _ _ _ _ _ _ _ _ _ _ _ _ _ _ _ _ _ _ _ _ _ _ _ _ _ _ _ _ _ _ _ _ _ _ _ _ _ _ _ hkr hpp hpn HFin.out
        case neg =>
        have k5e : (kk == 5) = false := by simpa using k5
        have k5b : (kk != 5) = true := by simpa using k5
        have hstep : accX (n - p0) (l.drop p0) = accX (f - 1) (l.drop (p + zn)) := by
          obtain ⟨f', rfl⟩ : ∃ f', f = f' + 1 := ⟨f - 1, by omega⟩
          have h := accX_step (l := l) (p := p) f' (by omega) ⟨by rw [Hz.out]; omega, by rw [Hz.out]; omega, by rw [Hk.out]; simp only [stdS, decide_eq_false k1, decide_eq_false k2, decide_eq_false k4, decide_eq_false k5, Bool.or_self]⟩
          rw [Hrel.out, h, Hz.out, Int.toNat_natCast]
          rfl
        have Hst := hide hstep
        have Hle := hide (show p + zn ≤ n by omega)
        have H2 := hide (show 2 ≤ zn by omega)
        have Hp0 := hide hpp
        clear hstep Hrel
        go_wp2_with fail
        go_roundg (gk - zn)
        case measure => have := H2.out; have := Hp.out; have := Hle.out; omega
        case rel => exact ⟨p + zn, f - 1, by have := Hp.out; have := Hle.out; omega, by first | rfl | go_num, hkr, by have := Hp0.out; omega, Hle.out, by have := H2.out; omega, Hst.out⟩
      case neg =>
      have h2i : (n : Int) < ((p + zn : Nat) : Int) := by omega
      have h2j : (n : Int) < (p : Int) + (zn : Int) := by omega
      have h2k : ¬ (p : Int) + (zn : Int) ≤ (n : Int) := by omega
      have hfin : accX (n - p0) (l.drop p0) = l.drop p := by rw [Hrel.out]; exact accX_stop f (fun hp1 hc => by have h := hc.2.1; rw [Hz.out] at h; omega)
      have HFin := hide hfin
      clear hfin
      try clear Hrel
      go_wp2_with fail
      exact HQ.out _ _ _ _ _ _ _ _ _ _ _ _ _ _ _ _ _ _ _ _ _ _ _ _ _ _ _ _ _ _ _ _ _ _ _ _ _ _ _ _ _ _ _ _ _ _ _ _ _ _ _ _ _ _ _ _ _ _ _ _ _ _ _ _ hkr hpp hpn HFin.out
    case neg =>
    have h1i : (zn : Int) ≤ 1 := by omega
    have h1j : ¬ (1 : Int) < (zn : Int) := by omega
    have hfin : accX (n - p0) (l.drop p0) = l.drop p := by rw [Hrel.out]; exact accX_stop f (fun hp1 hc => by have h := hc.1; rw [Hz.out] at h; omega)
    have HFin := hide hfin
    clear hfin
    try clear Hrel
    go_wp2_with fail
    exact HQ.out _ _ _ _ _ _ _ _ _ _ _ _ _ _ _ _ _ _ _ _ _ _ _ _ _ _ _ _ _ _ _ _ _ _ _ _ _ _ _ _ _ _ _ _ _ _ _ _ _ _ _ _ _ _ _ _ _ _ _ _ _ _ _ _ hkr hpp hpn HFin.out
end Go.Proofs.YtjgncofhobhjdaaDoor
/- accepted: the endpoints of a setting. Printed by gen_aa.py. -/
namespace Go.Proofs.YtjgncofhobhjdaaDoor
open Go.RowKit
attribute [local go_sem ↓] Go.wp_at_zero Go.wp_at_succ

theorem epBad_eq (e0 e1 kd mx iv : Int) (a : Nat) (s : Int → Bool) (o : Int → Nat) (ifc : Nat) : epBad e0 e1 (a : Int) kd mx iv s o ifc = (decide (¬ e0 = 7) || decide (¬ e1 = 5) || (decide ((a : Int) % 128 < 1) || decide (15 < (a : Int) % 128) || decide (kd < 1) || decide (3 < kd) || decide (mx < 1) || decide (1024 < mx) || s a || (decide (0 < o a) && decide (o a ≠ ifc))) || ((decide (kd = 2) && decide (¬ iv = 0)) || (decide (¬ kd = 2) && decide (iv < 1)) || (decide (kd = 1) && decide (16 < iv)))) := by
  unfold epBad
  simp only [Bool.or_assoc, ne_eq]
noncomputable def codeB4a : Code := (Tryd.f20.body.bind (findB 4)).getD .skip
set_option maxRecDepth 1000000 in
set_option maxHeartbeats 16000000 in
theorem acc_eps {u1 u2 u5 u10 u11 u12 u13 u14 u15 u16 u17 u18 u19 u20 u21 u22 u23 u24 u25 u26 u27 u28 u29 u30 u31 u32 u33 u34 u35 u36 u37 u38 u39 u40 u41 u42 u43 u44 u45 u46 u47 u48 u49 u50 u51 u52 u53 u54 u55 u56 u57 u58 u59 u60 u61 u62 u63 u64 u65 u66 u67 u68 u69 u70 u71 u72 u73 u74 u75 u76 u77 u78 u79 u80 u81 u82 u83 u84 u85 u86 u87 u88 u89 u90 u91 u92 u93 u94 u95 u96 u97 u98 u99 u100 u101 u102 u103 u104 u105 u106 u107 u108 u109 u110 u111 u112 u113 u114 u115 u116 u117 u118 u119 u120 u121 u122 u123 u124 u125 u126 u127 u128 u129 u130 u131 u132 u133 u134 u135 u136 u137 u138 u139 u140 u141 u142 u143 u144 u145 u146 u147 u148 u149 u150 u151 u152 u153 u154 u155 u156 u157 u158 u159 u160 u161 u162 u163 u164 u165 u166 u167 u168 u169 u170 u171 u172 u173 u174 u175 u176 u177 u178 u179 u180 u181 u182 u183 u184 u185 u186 u187 u188 u189 u190 u191 u192 u193 u194 u195 u196 u197 u198 u199 u200 u201 u202 u203 u204 u205 u206 u207 u208 u209 u210 u211 u212 u213 u214 u215 u216 u217 u218 u219 u220 u221 u222 u223 u224 u225 u226 u227 u228 u229 u230 u231 u232 u233 u234 u235 u236 u237 u238 u239 u240 u241 u242 u243 u244 u245 u246 u247 u248 u249 u250 u251 u252 u253 u254 u255 u256 u257 u258 u259 u260 u261 u262 u263 u264 u265 u266 u267 u268 u269 u270 u271 u272 u273 u274 u275 u276 u277 u278 u279 u280 u281 u282 u283 u284 u285 u286 u287 u288 u289 u290 u291 u292 u293 u294 u295 u296 u297 u298 u299 u300 u301 u302 u303 u304 u305 u306 u307 u308 u309 u310 u311 u312 u313 u314 u315 u316 u317 u318 u319 u320 u321 u322 u323 u324 u325 u326 u327 u328 u329 u330 u331 u332 u333 u334 u335 u336 u337 u338 u339 u340 u341 u342 u343 u344 u345 u346 u347 u348 u349 u350 u351 u352 u353 : Value} {b off n c p0 OB SB ifc many : Nat} {l : List Int} {o : Int → Nat} {V wr : World} (hl : Sl u8T V (low V.heap.size) (some ⟨b, off, none⟩) n l) (hn0 : 0 < n) (hnc : n ≤ c) (hcm : c ≤ maxLen) (hn4 : n ≤ 10000) (hp0 : p0 ≤ n) (hif : ifc ≤ 100000) (hmn : many ≤ 1000)
    (hkV : Kept V wr) (hOB : wr.heap[OB]? = some (.cells (arr o) 106 (0, 0))) (hSB : wr.heap[SB]? = some (.cells (arr fun _ => 0) 106 (0, 0))) (hOV : V.heap.size ≤ OB) (hSV : V.heap.size ≤ SB) (hne : OB ≠ SB)
    (Q : Exit → Act → World → Prop) (hQ : ∀ (s2 s9 s10 s11 s12 s13 s220 s221 s222 s223 s224 s225 s226 s227 s228 s229 s230 s231 s232 s233 s234 s235 s236 s237 s238 s239 s240 s241 s242 s243 s244 s245 s246 s247 s248 s249 s250 s251 s252 s253 s254 s255 s256 s257 s258 s259 s260 s261 s262 s263 s264 s265 s266 s267 s268 s269 s270 s271 s272 s273 s274 s275 s276 s277 s278 s279 s280 s281 s282 s283 s284 s285 s286 s287 s288 s289 s290 s291 s292 s293 s294 s295 s296 s297 s298 s299 s300 s301 s302 s303 s304 s305 s306 s307 s308 s309 s310 s311 s312 s313 s314 s315 s316 s317 s318 s319 s320 s321 s322 s323 s324 s325 s326 s327 s328 s329 s330 s331 s332 s333 s334 s335 s336 s337 s338 s339 s340 s341 s342 s343 s344 s345 s346 s347 : Value) (p' : Nat) (o' : Int → Nat) (w' : World), Kept V w' → p0 ≤ p' → p' ≤ n → w'.heap[OB]? = some (.cells (arr o') 106 (0, 0)) → accEps many (l.drop p0) (fun _ => false) o ifc = some (l.drop p', o') → Q .normal ⟨#[.slice (some ⟨b, off, none⟩) n c, u1, s2, .pointer (some ⟨OB, 0, none⟩), .int .i64 ifc, u5, (.int .i64 ((p' : Nat) : Int)), .int .i64 many, .pointer (some ⟨SB, 0, none⟩), s9, s10, s11, s12, s13, u14, u15, u16, u17, u18, u19, u20, u21, u22, u23, u24, u25, u26, u27, u28, u29, u30, u31, u32, u33, u34, u35, u36, u37, u38, u39, u40, u41, u42, u43, u44, u45, u46, u47, u48, u49, u50, u51, u52, u53, u54, u55, u56, u57, u58, u59, u60, u61, u62, u63, u64, u65, u66, u67, u68, u69, u70, u71, u72, u73, u74, u75, u76, u77, u78, u79, u80, u81, u82, u83, u84, u85, u86, u87, u88, u89, u90, u91, u92, u93, u94, u95, u96, u97, u98, u99, u100, u101, u102, u103, u104, u105, u106, u107, u108, u109, u110, u111, u112, u113, u114, u115, u116, u117, u118, u119, u120, u121, u122, u123, u124, u125, u126, u127, u128, u129, u130, u131, u132, u133, u134, u135, u136, u137, u138, u139, u140, u141, u142, u143, u144, u145, u146, u147, u148, u149, u150, u151, u152, u153, u154, u155, u156, u157, u158, u159, u160, u161, u162, u163, u164, u165, u166, u167, u168, u169, u170, u171, u172, u173, u174, u175, u176, u177, u178, u179, u180, u181, u182, u183, u184, u185, u186, u187, u188, u189, u190, u191, u192, u193, u194, u195, u196, u197, u198, u199, u200, u201, u202, u203, u204, u205, u206, u207, u208, u209, u210, u211, u212, u213, u214, u215, u216, u217, u218, u219, s220, s221, s222, s223, s224, s225, s226, s227, s228, s229, s230, s231, s232, s233, s234, s235, s236, s237, s238, s239, s240, s241, s242, s243, s244, s245, s246, s247, s248, s249, s250, s251, s252, s253, s254, s255, s256, s257, s258, s259, s260, s261, s262, s263, s264, s265, s266, s267, s268, s269, s270, s271, s272, s273, s274, s275, s276, s277, s278, s279, s280, s281, s282, s283, s284, s285, s286, s287, s288, s289, s290, s291, s292, s293, s294, s295, s296, s297, s298, s299, s300, s301, s302, s303, s304, s305, s306, s307, s308, s309, s310, s311, s312, s313, s314, s315, s316, s317, s318, s319, s320, s321, s322, s323, s324, s325, s326, s327, s328, s329, s330, s331, s332, s333, s334, s335, s336, s337, s338, s339, s340, s341, s342, s343, s344, s345, s346, s347, u348, u349, u350, u351, u352, u353], []⟩ w')
    (hR : ∀ (s6 s9 s10 s11 s12 s13 s220 s221 s222 s223 s224 s225 s226 s227 s228 s229 s230 s231 s232 s233 s234 s235 s236 s237 s238 s239 s240 s241 s242 s243 s244 s245 s246 s247 s248 s249 s250 s251 s252 s253 s254 s255 s256 s257 s258 s259 s260 s261 s262 s263 s264 s265 s266 s267 s268 s269 s270 s271 s272 s273 s274 s275 s276 s277 s278 s279 s280 s281 s282 s283 s284 s285 s286 s287 s288 s289 s290 s291 s292 s293 s294 s295 s296 s297 s298 s299 s300 s301 s302 s303 s304 s305 s306 s307 s308 s309 s310 s311 s312 s313 s314 s315 s316 s317 s318 s319 s320 s321 s322 s323 s324 s325 s326 s327 s328 s329 s330 s331 s332 s333 s334 s335 s336 s337 s338 s339 s340 s341 s342 s343 s344 s345 s346 s347 : Value) (w' : World), Kept V w' → accEps many (l.drop p0) (fun _ => false) o ifc = none → Q .ret ⟨#[.slice (some ⟨b, off, none⟩) n c, u1, .int .i64 0, .pointer (some ⟨OB, 0, none⟩), .int .i64 ifc, u5, s6, .int .i64 many, .pointer (some ⟨SB, 0, none⟩), s9, s10, s11, s12, s13, u14, u15, u16, u17, u18, u19, u20, u21, u22, u23, u24, u25, u26, u27, u28, u29, u30, u31, u32, u33, u34, u35, u36, u37, u38, u39, u40, u41, u42, u43, u44, u45, u46, u47, u48, u49, u50, u51, u52, u53, u54, u55, u56, u57, u58, u59, u60, u61, u62, u63, u64, u65, u66, u67, u68, u69, u70, u71, u72, u73, u74, u75, u76, u77, u78, u79, u80, u81, u82, u83, u84, u85, u86, u87, u88, u89, u90, u91, u92, u93, u94, u95, u96, u97, u98, u99, u100, u101, u102, u103, u104, u105, u106, u107, u108, u109, u110, u111, u112, u113, u114, u115, u116, u117, u118, u119, u120, u121, u122, u123, u124, u125, u126, u127, u128, u129, u130, u131, u132, u133, u134, u135, u136, u137, u138, u139, u140, u141, u142, u143, u144, u145, u146, u147, u148, u149, u150, u151, u152, u153, u154, u155, u156, u157, u158, u159, u160, u161, u162, u163, u164, u165, u166, u167, u168, u169, u170, u171, u172, u173, u174, u175, u176, u177, u178, u179, u180, u181, u182, u183, u184, u185, u186, u187, u188, u189, u190, u191, u192, u193, u194, u195, u196, u197, u198, u199, u200, u201, u202, u203, u204, u205, u206, u207, u208, u209, u210, u211, u212, u213, u214, u215, u216, u217, u218, u219, s220, s221, s222, s223, s224, s225, s226, s227, s228, s229, s230, s231, s232, s233, s234, s235, s236, s237, s238, s239, s240, s241, s242, s243, s244, s245, s246, s247, s248, s249, s250, s251, s252, s253, s254, s255, s256, s257, s258, s259, s260, s261, s262, s263, s264, s265, s266, s267, s268, s269, s270, s271, s272, s273, s274, s275, s276, s277, s278, s279, s280, s281, s282, s283, s284, s285, s286, s287, s288, s289, s290, s291, s292, s293, s294, s295, s296, s297, s298, s299, s300, s301, s302, s303, s304, s305, s306, s307, s308, s309, s310, s311, s312, s313, s314, s315, s316, s317, s318, s319, s320, s321, s322, s323, s324, s325, s326, s327, s328, s329, s330, s331, s332, s333, s334, s335, s336, s337, s338, s339, s340, s341, s342, s343, s344, s345, s346, s347, u348, u349, u350, u351, u352, u353], []⟩ w') :
    Code.wp Tryd.prog codeB4a Q ⟨#[.slice (some ⟨b, off, none⟩) n c, u1, u2, .pointer (some ⟨OB, 0, none⟩), .int .i64 ifc, u5, .int .i64 p0, .int .i64 many, .pointer (some ⟨SB, 0, none⟩), .int .i64 0, u10, u11, u12, u13, u14, u15, u16, u17, u18, u19, u20, u21, u22, u23, u24, u25, u26, u27, u28, u29, u30, u31, u32, u33, u34, u35, u36, u37, u38, u39, u40, u41, u42, u43, u44, u45, u46, u47, u48, u49, u50, u51, u52, u53, u54, u55, u56, u57, u58, u59, u60, u61, u62, u63, u64, u65, u66, u67, u68, u69, u70, u71, u72, u73, u74, u75, u76, u77, u78, u79, u80, u81, u82, u83, u84, u85, u86, u87, u88, u89, u90, u91, u92, u93, u94, u95, u96, u97, u98, u99, u100, u101, u102, u103, u104, u105, u106, u107, u108, u109, u110, u111, u112, u113, u114, u115, u116, u117, u118, u119, u120, u121, u122, u123, u124, u125, u126, u127, u128, u129, u130, u131, u132, u133, u134, u135, u136, u137, u138, u139, u140, u141, u142, u143, u144, u145, u146, u147, u148, u149, u150, u151, u152, u153, u154, u155, u156, u157, u158, u159, u160, u161, u162, u163, u164, u165, u166, u167, u168, u169, u170, u171, u172, u173, u174, u175, u176, u177, u178, u179, u180, u181, u182, u183, u184, u185, u186, u187, u188, u189, u190, u191, u192, u193, u194, u195, u196, u197, u198, u199, u200, u201, u202, u203, u204, u205, u206, u207, u208, u209, u210, u211, u212, u213, u214, u215, u216, u217, u218, u219, u220, u221, u222, u223, u224, u225, u226, u227, u228, u229, u230, u231, u232, u233, u234, u235, u236, u237, u238, u239, u240, u241, u242, u243, u244, u245, u246, u247, u248, u249, u250, u251, u252, u253, u254, u255, u256, u257, u258, u259, u260, u261, u262, u263, u264, u265, u266, u267, u268, u269, u270, u271, u272, u273, u274, u275, u276, u277, u278, u279, u280, u281, u282, u283, u284, u285, u286, u287, u288, u289, u290, u291, u292, u293, u294, u295, u296, u297, u298, u299, u300, u301, u302, u303, u304, u305, u306, u307, u308, u309, u310, u311, u312, u313, u314, u315, u316, u317, u318, u319, u320, u321, u322, u323, u324, u325, u326, u327, u328, u329, u330, u331, u332, u333, u334, u335, u336, u337, u338, u339, u340, u341, u342, u343, u344, u345, u346, u347, u348, u349, u350, u351, u352, u353], []⟩ wr := by
  obtain ⟨b', off', hbo, hbl0, hcx0⟩ := sl_bytes hl hn0
  injection hbo with hbo
  injection hbo with hb1 hb2 _
  subst hb1 hb2
  have h8 := sl_byte8 hl
  have hln := hl.1
  have HQ := hide hQ
  have HR := hide hR
  have H8 := hide h8
  have hcx : ∀ W, Kept V W → ∀ i, i < n → W.cell? ⟨b, off + i, none⟩ = some (.int .u8 (byteAt l i)) := fun W hk i hi => (hk.cell (p := ⟨b, off + i, none⟩) hbl0).trans (hcx0 i hi)
  have Hcx := hide hcx
  have Hbl := hide (show ∀ W, Kept V W → b < W.heap.size from fun W hk => Nat.lt_of_lt_of_le hbl0 hk.size)
  have HkV := hide hkV
  have HOB0 := hide hOB
  have HSB0 := hide hSB
  have Hln := hide hln
  clear hQ hR h8 hl hcx hcx0 hbl0 hkV hOB hSB hln
  conv => arg 2; whnf
  go_wp2_with fail
  go_loopg [6, 9] many (fun g s6 s9 wx => ∃ (k p : Nat) (s : Int → Bool) (o2 : Int → Nat), k + g = many ∧ s9 = .int .i64 k ∧ s6 = .int .i64 p ∧ p0 ≤ p ∧ p ≤ n ∧ Kept V wx ∧ wx.heap[OB]? = some (.cells (arr o2) 106 (0, 0)) ∧ wx.heap[SB]? = some (.cells (arr fun a => if s a then 1 else 0) 106 (0, 0)) ∧ accEps many (l.drop p0) (fun _ => false) o ifc = accEps (many - k) (l.drop p) s o2 ifc)
  case atStart => exact ⟨0, p0, fun _ => false, o, by omega, rfl, rfl, Nat.le_refl _, hp0, HkV.out, HOB0.out, by simpa using HSB0.out, rfl⟩
  case round =>
    clear HkV HOB0 HSB0
    obtain ⟨k, p, s, o2, hk, rfl, rfl, hpp, hpn, hkr, hOB, hSB, hrel⟩ := hrel
    have Hpp := hide hpp
    clear hpp
    have HOB := hide hOB
    have HSB := hide hSB
    have Hk := hide hk
    have Hkr := hide hkr
    clear hk hOB hSB hkr
    by_cases hlk : k < many
    case neg =>
      have hge : (many : Int) ≤ (k : Int) := by omega
      have hge2 : ¬ (k : Int) < (many : Int) := by omega
      have hfin : accEps many (l.drop p0) (fun _ => false) o ifc = some (l.drop p, o2) := by
        rw [hrel, show many - k = 0 by omega]
        exact accEps_zero _ _ _ _
      have HFin := hide hfin
      clear hfin hrel
      go_wp2_with fail
      exact HQ.out _ _ _ _ _ _ _ _ _ _ _ _ _ _ _ _ _ _ _ _ _ _ _ _ _ _ _ _ _ _ _ _ _ _ _ _ _ _ _ _ _ _ _ _ _ _ _ _ _ _ _ _ _ _ _ _ _ _ _ _ _ _ _ _ _ _ _ _ _ _ _ _ _ _ _ _ _ _ _ _ _ _ _ _ _ _ _ _ _ _ _ _ _ _ _ _ _ _ _ _ _ _ _ _ _ _ _ _ _ _ _ _ _ _ _ _ _ _ _ _ _ _ _ _ _ _ _ _ _ _ _ _ _ _ _ o2 _ Hkr.out Hpp.out hpn HOB.out HFin.out
    case pos =>
    have hkm : (k : Int) < (many : Int) := by omega
    have hwk : IntKind.i64.wrap ((k : Int) + 1) = ((k + 1 : Nat) : Int) := by rw [IntKind.wrap_i64]; omega
    have hwp7 : IntKind.i64.wrap ((p : Int) + 7) = ((p + 7 : Nat) : Int) := by rw [IntKind.wrap_i64]; omega
    rw [show many - k = many - k - 1 + 1 by omega] at hrel
    have Hrel := hide hrel
    clear hrel
    go_upto_region 23 with (fail)
    refine acc_r23 hnc hcm hpn (fun _ => Hbl.out _ Hkr.out) (fun h => Hcx.out _ Hkr.out p (by omega)) (fun h => Hcx.out _ Hkr.out (p + 1) (by omega)) (H8.out p) (H8.out (p + 1)) _ ?_
    intro s225 s226 s227 s228 s229 s230 s231 s232 s233 s234 s235 s236 s237 s238 s239 s240 s241 s242 s243 w1 hk1
    have hkr1 := Hkr.out.trans' hk1
    have hOB1 := heap_kept hk1 HOB.out
    have hSB1 := heap_kept hk1 HSB.out
    have Hkr1 := hide hkr1
    have HOB1 := hide hOB1
    have HSB1 := hide hSB1
    clear Hkr HOB HSB hkr1 hOB1 hSB1 hk1
    obtain ⟨B, hB⟩ : ∃ B, (decide ((n : Int) - (p : Int) < 7) || decide (¬ byteAt l p = 7) || decide (¬ byteAt l (p + 1) = 5)) = B := ⟨_, rfl⟩
    rw [hB]
    have HB := hide hB
    clear hB
    cases B with
    | true =>
      have hnone : accEps many (l.drop p0) (fun _ => false) o ifc = none := by
        rw [Hrel.out]
        by_cases h7 : p + 7 ≤ n
        · rw [accEps_step (by rw [Hln.out]; exact h7), if_pos]
          unfold epBad
          have h := HB.out
          rw [decide_eq_false (show ¬ (n : Int) - (p : Int) < 7 by omega), Bool.false_or] at h
          simp only [ne_eq]
          rw [h]
          simp only [Bool.true_or]
        · exact accEps_short (by rw [Hln.out]; omega) _ _ _ _
      have HN := hide hnone
      clear hnone Hrel HB
      go_wp2_with fail
      exact HR.out _ _ _ _ _ _ _ _ _ _ _ _ _ _ _ _ _ _ _ _ _ _ _ _ _ _ _ _ _ _ _ _ _ _ _ _ _ _ _ _ _ _ _ _ _ _ _ _ _ _ _ _ _ _ _ _ _ _ _ _ _ _ _ _ _ _ _ _ _ _ _ _ _ _ _ _ _ _ _ _ _ _ _ _ _ _ _ _ _ _ _ _ _ _ _ _ _ _ _ _ _ _ _ _ _ _ _ _ _ _ _ _ _ _ _ _ _ _ _ _ _ _ _ _ _ _ _ _ _ _ _ _ _ _ _ Hkr1.out HN.out
    | false =>
    have hb := HB.out
    simp only [Bool.or_eq_false_iff, decide_eq_false_iff_not, Classical.not_not] at hb
    obtain ⟨⟨hb7, e7⟩, e5⟩ := hb
    have hp7 : p + 7 ≤ n := by omega
    have E7 := hide e7
    have E5 := hide e5
    clear HB e7 e5 hb7
    go_upto_region 25 with (fail)
    refine acc_r25 hnc hcm hpn hp7 (fun _ => Hbl.out _ Hkr1.out) (fun h => Hcx.out _ Hkr1.out (p + 2) (by omega)) (fun h => Hcx.out _ Hkr1.out (p + 3) (by omega)) (fun h => Hcx.out _ Hkr1.out (p + 4) (by omega)) (fun h => Hcx.out _ Hkr1.out (p + 5) (by omega)) (fun h => Hcx.out _ Hkr1.out (p + 6) (by omega)) (H8.out (p + 2)) (H8.out (p + 3)) (H8.out (p + 4)) (H8.out (p + 5)) (H8.out (p + 6)) _ ?_
    intro s245 s246 s247 s248 s249 s250 s251 s252 s253 s254 s255 s256 s257 s258 s259 s260 s261 s262 s263 s264 s265 s266 s267 s268 s269 s270 s271 s272 s273 s274 s275 w2 hk2
    have hkr2 := Hkr1.out.trans' hk2
    have hOB2 := heap_kept hk2 HOB1.out
    have hSB2 := heap_kept hk2 HSB1.out
    obtain ⟨an, han⟩ : ∃ an : Nat, byteAt l (p + 2) = (an : Int) := ⟨(byteAt l (p + 2)).toNat, by have := (H8.out (p + 2)).1; omega⟩
    have han2 : an < 256 := by have := (H8.out (p + 2)).2; omega
    obtain ⟨kd, hkd⟩ : ∃ kd, byteAt l (p + 3) = kd := ⟨_, rfl⟩
    obtain ⟨mx, hmx⟩ : ∃ mx, byteAt l (p + 4) + 256 * byteAt l (p + 5) = mx := ⟨_, rfl⟩
    obtain ⟨iv, hiv⟩ : ∃ iv, byteAt l (p + 6) = iv := ⟨_, rfl⟩
    rw [han, hkd, hmx, hiv]
    have hst := accEps_step (l := l) (p := p) (by rw [Hln.out]; exact hp7) (many - k - 1) s o2 ifc
    rw [han, hkd, hmx, hiv, E7.out, E5.out, epBad_eq] at hst
    have lo2 := heap_lt hOB2
    have ls2 := heap_lt hSB2
    have co2 : w2.cell? ⟨OB, an, none⟩ = some (.int .i64 (o2 an : Nat)) := cell_heap hOB2 (arr_at _ han2)
    have cs2 : w2.cell? ⟨SB, an, none⟩ = some (.int .i64 (if s an then 1 else 0)) := by
      have h := cell_heap hSB2 (o := an) (arr_at _ han2)
      rw [h]
      cases s an <;> rfl
    have Hst := hide hst
    have Hkr2 := hide hkr2
    have HOB2 := hide hOB2
    have HSB2 := hide hSB2
    clear hst han hkd hmx hiv hkr2 hOB2 hSB2 Hkr1 HOB1 HSB1 hk2
    go_upto_region 26 with (fail)
    refine acc_r26 (sa := s an) (oa := o2 an) han2 ls2 lo2 cs2 co2 _ ?_
    intro s276 s277 s278 s279 s280 s281 s282 s283 s284 s285 s286 s287 s288 s289 s290 s291 s292 s293 s294 s295 s296 s297 s298 s299 s300 s301 s302 s303 s304 s305 s306 s307 s308 s309 s310 s311 s312 s313 s314 s315 s316 s317 w3 hk3
    have hkr3 := Hkr2.out.trans' hk3
    have hOB3 := heap_kept hk3 HOB2.out
    have hSB3 := heap_kept hk3 HSB2.out
    have Hkr3 := hide hkr3
    have HOB3 := hide hOB3
    have HSB3 := hide hSB3
    clear Hkr2 HOB2 HSB2 hkr3 hOB3 hSB3 hk3 co2 cs2 lo2 ls2
    obtain ⟨B, hB⟩ : ∃ B, (decide ((an : Int) % 128 < 1) || decide (15 < (an : Int) % 128) || decide (kd < 1) || decide (3 < kd) || decide (mx < 1) || decide (1024 < mx) || s an || (decide (0 < o2 an) && decide (o2 an ≠ ifc))) = B := ⟨_, rfl⟩
    have hst := Hst.out
    rw [hB] at hst ⊢
    clear Hst
    cases B with
    | true =>
      have hnone : accEps many (l.drop p0) (fun _ => false) o ifc = none := by
        rw [Hrel.out, hst, if_pos (by simp)]
      have HN := hide hnone
      clear hnone Hrel hst hB
      go_wp2_with fail
      exact HR.out _ _ _ _ _ _ _ _ _ _ _ _ _ _ _ _ _ _ _ _ _ _ _ _ _ _ _ _ _ _ _ _ _ _ _ _ _ _ _ _ _ _ _ _ _ _ _ _ _ _ _ _ _ _ _ _ _ _ _ _ _ _ _ _ _ _ _ _ _ _ _ _ _ _ _ _ _ _ _ _ _ _ _ _ _ _ _ _ _ _ _ _ _ _ _ _ _ _ _ _ _ _ _ _ _ _ _ _ _ _ _ _ _ _ _ _ _ _ _ _ _ _ _ _ _ _ _ _ _ _ _ _ _ _ _ Hkr3.out HN.out
    | false =>
    clear hB
    have Hst := hide hst
    clear hst
    go_upto_region 28 with (fail)
    refine acc_r28 (kd := kd) (iv := iv) _ ?_
    intro s319 s320 s321 s322 s323 s324 s325 s326 s327 s328 s329 s330 s331 s332 s333 s334 s335 s336 s337 s338 s339 w4 hk4
    have hkr4 := Hkr3.out.trans' hk4
    have hOB4 := heap_kept hk4 HOB3.out
    have hSB4 := heap_kept hk4 HSB3.out
    have Hkr4 := hide hkr4
    have HOB4 := hide hOB4
    have HSB4 := hide hSB4
    clear Hkr3 HOB3 HSB3 hkr4 hOB4 hSB4 hk4
    obtain ⟨B, hB⟩ : ∃ B, ((decide (kd = 2) && decide (¬ iv = 0)) || (decide (¬ kd = 2) && decide (iv < 1)) || (decide (kd = 1) && decide (16 < iv))) = B := ⟨_, rfl⟩
    have hst := Hst.out
    rw [hB] at hst ⊢
    clear Hst
    cases B with
    | true =>
      have hnone : accEps many (l.drop p0) (fun _ => false) o ifc = none := by
        rw [Hrel.out, hst, if_pos (by simp)]
      have HN := hide hnone
      clear hnone Hrel hst hB
      go_wp2_with fail
      exact HR.out _ _ _ _ _ _ _ _ _ _ _ _ _ _ _ _ _ _ _ _ _ _ _ _ _ _ _ _ _ _ _ _ _ _ _ _ _ _ _ _ _ _ _ _ _ _ _ _ _ _ _ _ _ _ _ _ _ _ _ _ _ _ _ _ _ _ _ _ _ _ _ _ _ _ _ _ _ _ _ _ _ _ _ _ _ _ _ _ _ _ _ _ _ _ _ _ _ _ _ _ _ _ _ _ _ _ _ _ _ _ _ _ _ _ _ _ _ _ _ _ _ _ _ _ _ _ _ _ _ _ _ _ _ _ _ Hkr4.out HN.out
    | false =>
    rw [if_neg (by simp)] at hst
    have Hst := hide (Hrel.out.trans hst)
    have c1 := cell_heap HSB4.out (o := an) (arr_at _ han2)
    have f1 := frozen_heap HSB4.out (o := an)
    have l1 := heap_lt HSB4.out
    have c2 := cell_heap HOB4.out (o := an) (arr_at _ han2)
    have f2 := frozen_heap HOB4.out (o := an)
    have l2 := heap_lt HOB4.out
    have ha0 : (0 : Int) ≤ (an : Int) := by omega
    have ha1 : (an : Int) < 256 := by omega
    have hne2 : SB ≠ OB := fun e => hne e.symm
    have Hp7 := hide hp7
    clear hB hst Hrel hp7
    go_wp2_with fail
    go_roundg (gk - 1)
    case measure => have := Hk.out; omega
    case rel =>
      refine ⟨k + 1, p + 7, fun x => if x = (an : Int) then true else s x, fun x => if x = (an : Int) then ifc else o2 x, by have := Hk.out; omega, by first | rfl | go_num, by first | rfl | go_num, by have := Hpp.out; omega, Hp7.out, (Hkr4.out.setCell hSV _).setCell hOV _, ?_, ?_, ?_⟩
      · rw [← arr_set o2 han2 ifc]
        exact heap_store (heap_other HOB4.out hne) _
      · have h := heap_other (a := ⟨OB, an, none⟩) (v := .int .i64 ifc) (heap_store HSB4.out (.int .i64 1) (i := an)) hne2
        rw [show (Value.int .i64 1) = .int .i64 ((1 : Nat) : Int) from rfl, arr_set _ han2 1] at h
        have e : (fun x => if x = (an : Int) then 1 else if s x = true then 1 else 0) = fun x => if (if x = (an : Int) then true else s x) = true then 1 else 0 := by
          funext x
          by_cases hx : x = (an : Int)
          · rw [if_pos hx, if_pos hx, if_pos rfl]
          · rw [if_neg hx, if_neg hx]
        rw [e] at h
        exact h
      · rw [Hst.out, show many - k - 1 = many - (k + 1) by omega]
end Go.Proofs.YtjgncofhobhjdaaDoor
