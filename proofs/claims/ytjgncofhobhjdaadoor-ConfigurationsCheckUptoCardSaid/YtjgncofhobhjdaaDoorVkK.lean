/- The law Check: a vendor's bytes that are too many. Printed by gen_ve.py. -/
import Derived.Test.YtjgncofhobhjdaaDoorChecked
import Derived.Deep.RegionHeld3
import Derived.Deep.DrawnRows
import Derived.Deep.DeepCutAuto
import Derived.Deep.LoopGhost
import Derived.Outline
import Derived.Handy
import Derived.OwnWalk
import Derived.BigQuiet
import Derived.Test.YtjgncofhobhjdaaDoorVjK
set_option linter.unusedVariables false
set_option linter.unusedSimpArgs false
set_option linter.unusedSectionVars false
namespace Go.Proofs.YtjgncofhobhjdaaDoor
open Go.RowKit
attribute [local go_sem ↓] Go.wp_at_zero Go.wp_at_succ

theorem own_made8 {w : World} {b n base : Nat} (h : w.heap[b]? = some (.cells (madeCells #[.int .u8 0] n) 5 (0, 0))) (hb : base ≤ b) (hn : n ≤ maxLen) : Own u8T 5 base w (.slice (some ⟨b, 0, none⟩) n n) n (List.replicate n 0) := by
  have hmc : madeCells #[.int .u8 0] n = ((List.replicate n (0 : Int)).map (Value.int .u8)).toArray := by
    apply Array.ext_getElem?
    intro j
    have hs : (madeCells #[.int .u8 0] n).size = n := by simp [madeCells]
    conv => rhs; rw [List.getElem?_toArray, List.getElem?_map]
    by_cases hj : j < n
    · rw [made_at (v := .int .u8 0) hj (by simp [Nat.mod_one])]
      simp [List.getElem?_replicate]; omega
    · rw [Array.getElem?_eq_none (by rw [hs]; omega)]
      simp [List.getElem?_replicate]; omega
  rw [hmc] at h
  refine ⟨by simp, (List.replicate n (0 : Int)).map (Value.int .u8), ⟨by simp [u8T, Ty.flat], .inr ⟨b, n, _, rfl, hb, h, Nat.le_refl _, hn, by simp [u8T, Ty.flat], by simp [u8T, Ty.flat]⟩⟩, fun i x hx => ?_⟩
  have hi := (List.getElem?_eq_some_iff.1 hx).1
  rw [List.length_replicate] at hi
  have hx0 : x = 0 := by
    have := List.mem_of_getElem? hx
    rw [List.mem_replicate] at this
    exact this.2
  rw [hx0]
  refine ⟨?_, by unfold u8k; omega⟩
  show ((List.map (Value.int .u8) (List.replicate n 0)).drop (i * 1)).take 1 = [Value.int .u8 0]
  rw [Nat.mul_one, List.drop_eq_getElem_cons (by simpa using hi)]
  simp
set_option maxRecDepth 1000000 in
set_option maxHeartbeats 16000000 in
theorem chk_15 {u0 u1 u3 u4 u5 u6 u12 u13 u14 u15 u16 u17 u18 u19 u20 u21 u22 u23 u24 u25 u26 u27 u28 u29 u30 u31 u32 u33 u34 u35 u36 u37 u38 u39 u40 u41 u42 u43 u44 u45 u46 u47 u48 u49 u50 u51 u52 u53 u54 u55 u56 u57 u58 u59 u60 u61 u62 u63 u64 u65 u66 u67 u68 u69 u70 u71 u72 u73 u74 u75 u76 u77 u78 u79 u80 u81 u82 u83 u84 u85 u86 u87 u88 u89 u90 u91 u92 u93 u94 u95 u96 u97 u98 u99 u100 u101 u102 u103 u104 u105 u106 u107 u108 u109 u110 u111 u112 u113 u114 u115 u116 u117 u118 u119 u120 u121 u122 u123 u124 u125 u126 u127 u128 u129 u130 u131 u132 u133 u134 u135 u136 u137 u138 u139 u140 u141 u142 u143 u144 u145 u146 u147 u148 u149 u150 u151 u152 u153 u154 u155 u156 u157 u158 u159 u160 u161 u162 u163 u164 u165 u166 u167 u168 u169 u170 u171 u172 u173 u174 u175 u176 u177 u178 u179 u180 u181 u182 u183 u184 u185 u186 u187 u188 u189 u190 u191 u192 u193 u194 u195 u196 u197 u198 u199 u200 u201 u202 u203 u204 u205 u206 u207 u208 u209 u210 u211 u212 u213 u214 u215 u216 u217 u218 u219 u220 u221 u222 u223 u224 u225 u226 u227 u228 u229 u230 u231 u232 u233 u234 u235 u236 u237 u238 u239 u240 u241 u242 u243 u244 u245 u246 u247 u248 u249 u250 u251 u252 u253 u254 u255 u256 u257 u258 u259 u260 u261 u262 u263 u264 u265 u266 u267 u268 u269 u270 u271 u272 u273 u274 u275 u276 u277 u278 u279 u280 u281 u282 u283 u284 u285 u286 u287 u288 u289 u290 u291 u292 u293 u294 u295 u296 u297 u298 u299 u300 u301 u302 u303 u304 u305 u306 u307 u308 u309 u310 u311 u312 u313 u314 u315 u316 u317 u318 u319 u320 u321 u322 u323 u324 u325 u326 u327 u328 u329 u330 u331 u332 u333 u334 u335 u336 u337 u338 u339 u340 u341 u342 u343 u344 u345 u346 u347 u348 u349 u350 u351 u352 u353 u354 u355 u356 u357 u358 u359 u360 u361 u362 u363 u364 u365 u366 u367 u368 u369 u370 u371 u372 u373 u374 u375 u376 : Value} {w Y : World} {S BB gI g n1 cI m cA i j : Nat} {D : CfgD} {I : List (List Alt)} {l : List Alt} {L : List LF} {y : LF} {p : LA} {what : Int} (h : CK w Y S BB gI g n1 cI m cA i j D I l L y p) (hw : u8k what) (h16 : what % 16 = 15) (hT : Tabs w)
    (K K2 : Act → World → Prop) (hK : ∀ a w', Code.wp Tryd.prog (restC code8) (Exit.then K2 (bodyPost Tryd.prog Tryd.f6 fun e w' => e = .returned (.bool true) ∧ Kept w w')) a w' → K a w') (hK2 : ∀ a w', Code.wp Tryd.prog code67 (bodyPost Tryd.prog Tryd.f6 fun e w' => e = .returned (.bool true) ∧ Kept w w') a w' → K2 a w') :
    Code.wp Tryd.prog (headC code8) (Exit.then K (Exit.then K2 (bodyPost Tryd.prog Tryd.f6 fun e w' => e = .returned (.bool true) ∧ Kept w w'))) ⟨#[u0, u1, .int .u8 what, u3, u4, u5, u6, .pointer (some ⟨BB, 0, none⟩), .int .i64 (i : Int), .int .i64 (j : Int), .pointer (some ⟨g, j * 9, none⟩), .int .i64 1, u12, u13, u14, u15, u16, u17, u18, u19, u20, u21, u22, u23, u24, u25, u26, u27, u28, u29, u30, u31, u32, u33, u34, u35, u36, u37, u38, u39, u40, u41, u42, u43, u44, u45, u46, u47, u48, u49, u50, u51, u52, u53, u54, u55, u56, u57, u58, u59, u60, u61, u62, u63, u64, u65, u66, u67, u68, u69, u70, u71, u72, u73, u74, u75, u76, u77, u78, u79, u80, u81, u82, u83, u84, u85, u86, u87, u88, u89, u90, u91, u92, u93, u94, u95, u96, u97, u98, u99, u100, u101, u102, u103, u104, u105, u106, u107, u108, u109, u110, u111, u112, u113, u114, u115, u116, u117, u118, u119, u120, u121, u122, u123, u124, u125, u126, u127, u128, u129, u130, u131, u132, u133, u134, u135, u136, u137, u138, u139, u140, u141, u142, u143, u144, u145, u146, u147, u148, u149, u150, u151, u152, u153, u154, u155, u156, u157, u158, u159, u160, u161, u162, u163, u164, u165, u166, u167, u168, u169, u170, u171, u172, u173, u174, u175, u176, u177, u178, u179, u180, u181, u182, u183, u184, u185, u186, u187, u188, u189, u190, u191, u192, u193, u194, u195, u196, u197, u198, u199, u200, u201, u202, u203, u204, u205, u206, u207, u208, u209, u210, u211, u212, u213, u214, u215, u216, u217, u218, u219, u220, u221, u222, u223, u224, u225, u226, u227, u228, u229, u230, u231, u232, u233, u234, u235, u236, u237, u238, u239, u240, u241, u242, u243, u244, u245, u246, u247, u248, u249, u250, u251, u252, u253, u254, u255, u256, u257, u258, u259, u260, u261, u262, u263, u264, u265, u266, u267, u268, u269, u270, u271, u272, u273, u274, u275, u276, u277, u278, u279, u280, u281, u282, u283, u284, u285, u286, u287, u288, u289, u290, u291, u292, u293, u294, u295, u296, u297, u298, u299, u300, u301, u302, u303, u304, u305, u306, u307, u308, u309, u310, u311, u312, u313, u314, u315, u316, u317, u318, u319, u320, u321, u322, u323, u324, u325, u326, u327, u328, u329, u330, u331, u332, u333, u334, u335, u336, u337, u338, u339, u340, u341, u342, u343, u344, u345, u346, u347, u348, u349, u350, u351, u352, u353, u354, u355, u356, u357, u358, u359, u360, u361, u362, u363, u364, u365, u366, u367, u368, u369, u370, u371, u372, u373, u374, u375, u376], []⟩ Y := by
  obtain ⟨hw0, hw1⟩ := hw
  have hm16 : what.tmod 16 = 15 := by rw [Int.tmod_eq_emod_of_nonneg hw0]; exact h16
  obtain ⟨q1, q2, q3, q4, q5, q6, q7, q8⟩ := h.nums
  have qs := h.size
  have qd := h.ok.1
  have hB : Y.heap[BB]? = some (.cells #[.int .u16 D.total, .int .u8 D.ifs, .int .u8 D.number, .int .u8 D.text, .bool D.self, .bool D.wake, .int .u8 D.power, .slice (some ⟨gI, 0, none⟩) n1 cI] 32 (0, 0)) := h.mid.box
  obtain ⟨cur, hA⟩ := h.heapA
  have lB := heap_lt hB
  have lg := heap_lt hA
  have hk := h.mid.kept
  have hkS := hk.size
  obtain ⟨i8, hi8, h80, h81, h82⟩ := info_parts info5
  obtain ⟨iE, hiE, hE0, hE1, hE2⟩ := info_parts infoEp
  obtain ⟨iI, hiI, hI0, hI1, hI2⟩ := info_parts infoIf
  obtain ⟨iA, hiA, hA0, hA1, hA2⟩ := info_parts infoAlt
  have b0 : Y.cell? ⟨BB, 0, none⟩ = some (.int .u16 D.total) := cell_heap hB (o := 0) rfl
  obtain ⟨N, hN⟩ : ∃ N : Nat, 4097 - D.total = (N : Int) := ⟨(4097 - D.total).toNat, by omega⟩
  have hw0t : IntKind.i64.wrap D.total = D.total := by rw [IntKind.wrap_i64]; omega
  have hwN : IntKind.i64.wrap (4097 - D.total) = (N : Int) := by rw [IntKind.wrap_i64]; omega
  have hN4 : N ≤ 4097 := by omega
  have hNz : N + sizeS ⟨D, I⟩ = 4097 := by omega
  have HNz := hide hNz
  clear hNz hN
  have hmk := fun W' => mkB W' N (by omega)
  have H := hide h
  have HT := hide hT
  have HB := hide hB
  have HA := hide hA
  have Hq := hide (⟨q1, q2, q3, q4, q5, q6, q7, q8, qs, qd⟩ : D.total = (sizeS ⟨D, I⟩ : Int) ∧ D.ifs = (n1 : Int) ∧ p.a.d.num = (i : Int) ∧ p.a.d.alt = (j : Int) ∧ p.a.d.eps = (p.a.eps.length : Int) ∧ i < 6 ∧ j < 16 ∧ p.a.eps.length ≤ 30 ∧ sizeS ⟨D, I⟩ ≤ 3129 ∧ D.ok)
  clear h hT hB hA h16 q1 q2 q3 q4 q5 q6 q7 q8 qs qd hk hkS
  conv => arg 2; whnf
  conv at hK => enter [a, w', 1, 2]; whnf
  conv at hK2 => enter [a, w', 1, 2]; whnf
  go_wp2_with fail
  refine wp_at (fun Z => Kept Y Z ∧ Own u8T 5 Y.heap.size Z (.slice (some ⟨Y.heap.size, 0, none⟩) N N) N (List.replicate N 0)) ⟨by go_grown, own_made8 (heap_at _ rfl) (Nat.le_refl _) (by unfold maxLen; omega)⟩ (fun Z hZ => ?_)
  obtain ⟨hkZ, hoZ⟩ := hZ
  have HkZ := hide hkZ
  have HoZ := hide hoZ
  clear hkZ hoZ b0 lB lg
  go_loopg [18] N (fun g' s18 wr => ∃ (k : Nat) (xs : List Int), k + g' = N ∧ s18 = .int .i64 k ∧ Kept Y wr ∧ Own u8T 5 Y.heap.size wr (.slice (some ⟨Y.heap.size, 0, none⟩) N N) N xs ∧ xs.length = N ∧ ∀ z ∈ xs, u8k z)
  case atStart => exact ⟨0, _, by omega, rfl, HkZ.out, HoZ.out, by simp, fun z hz => by rw [List.mem_replicate] at hz; unfold u8k; omega⟩
  case round =>
    clear HkZ HoZ
    obtain ⟨k, xs, hk, rfl, hkr, hown, hxl, hx8⟩ := hrel
    have Hk := hide hk
    have Hkr := hide hkr
    have Hown := hide hown
    have Hx8 := hide hx8
    have Hxl := hide hxl
    clear hk hkr hown hx8 hxl
    by_cases hlt : k < N
    case pos =>
      have hki : (k : Int) < (N : Int) := by omega
      have hk0 : (0 : Int) ≤ (k : Int) := by omega
      have hwk : IntKind.i64.wrap ((k : Int) + 1) = ((k + 1 : Nat) : Int) := by rw [IntKind.wrap_i64]; omega
      obtain ⟨z, hz⟩ : ∃ z, xs[k]? = some z := ⟨_, List.getElem?_eq_getElem (by rw [Hxl.out]; exact hlt)⟩
      have hck : wr.cell? ⟨Y.heap.size, k, none⟩ = some (.int .u8 z) := by
        have h5 := own_cells (j := k) (cs := [.int .u8 z]) Hown.out hz (fun F c hr => hr.1) 0 _ rfl
        simpa [u8T, Ty.flat] using h5
      obtain ⟨_, cur5, _, hh5⟩ := ownBlock_heap Hown.out rfl
      have f5 := frozen_heap hh5 (o := k)
      have l5 := heap_lt hh5
      have h6 := Hown.out.setEl (o := 0) (x' := (2 : Int)) (u := .int .u8 2) flat_u8 (by rfl) hz (by exact Nat.one_pos) (fun W F cs hr => ⟨by obtain ⟨rfl, _⟩ : cs = [.int .u8 z] ∧ u8k z := hr; rfl, by unfold u8k; omega⟩)
      have e6 : k * u8T.size + 0 = k := by show k * 1 + 0 = k; omega
      rw [e6] at h6
      have Hown6 := hide h6
      have Hkr6 := hide (show Kept Y (wr.setCell ⟨Y.heap.size, k, none⟩ (.int .u8 2)) from Hkr.out.setCell (Nat.le_refl _) _)
      clear h6 hh5 e6
      go_wp2_with fail
      go_roundg (gk - 1)
      case measure => have := Hk.out; omega
      case rel => exact ⟨k + 1, xs.set k 2, by have := Hk.out; omega, by first | rfl | go_num, Hkr6.out, Hown6.out, by rw [List.length_set]; exact Hxl.out, fun z hz => (List.mem_or_eq_of_mem_set hz).elim (Hx8.out z) (fun e => by rw [e]; unfold u8k; omega)⟩
    case neg =>
      have hki : ¬ (k : Int) < (N : Int) := by omega
      have hZ0 := H.out.keep Hkr.out
      obtain ⟨cur0, hA0⟩ := hZ0.heapA
      have lg0 := heap_lt hA0
      have hX := hZ0.rows.1
      obtain ⟨XX, cX, hXX, hx1, hx2⟩ := hX.isSlice
      have c7 : wr.cell? ⟨g, j * 9 + 7, none⟩ = some p.X := hZ0.cells 7 _ rfl
      obtain ⟨nX, hnX⟩ : ∃ nX, p.a.extra.length = nX := ⟨_, rfl⟩
      have hnX2 : nX ≤ 3129 := by have h5 := hZ0.psize; unfold altSize at h5; omega
      rw [hXX, hnX] at hX c7
      rw [hnX] at hXX
      have f7 := frozen_heap hA0 (o := j * 9 + 7)
      have HX := hide hX
      have HXX := hide hXX
      have HnX := hide hnX
      have HgX := hide hZ0.neX
      have hSY : S ≤ wr.heap.size := by have h5 := hZ0.mid.low; have h6 := heap_lt hZ0.mid.box; omega
      clear hX hXX hnX
      have hsrc : Sl u8T wr (apart wr (.slice XX nX cX)) (some ⟨Y.heap.size, 0, none⟩) N xs := (own_flat_new flat_u8 Hown.out).keep (fun b hb => ⟨hb.2, fun e => by have h5 := H.out.rows.1; rw [HXX.out] at h5; have := (h5.lt e).2; omega⟩) (fun _ _ _ => rfl)
      have Hsrc := hide hsrc
      have HA0 := hide hA0
      have H0 := hide hZ0
      clear hsrc hA0 hZ0
      go_upto_region 16 with (at_builtin; refine wpList_append_sl (T := u8T) rfl (.tmp 74) (.tmp 75) 34 rfl S 5 i8 _ 1 Tryd.underlying34 hi8 h80 h81 h82 rfl (by exact Nat.one_pos) _ nX p.a.extra (by rfl) HX.out (some ⟨Y.heap.size, 0, none⟩) N N xs (by rfl) Hsrc.out (by_one8 _ _) (by unfold maxLen; omega) (by omega) (by omega) ?_; intro v9 w9 hown9 hg9 hb9 hat9; obtain ⟨A9, c9, rfl, h91, h92⟩ := hown9.isSlice; have hg9' := hg9; rw [← HXX.out] at hg9'; have hA9 := heap_grown hg9' (HA0.out) (fun e => HgX.out e.symm); have c79 : w9.cell? ⟨g, j * 9 + 7, none⟩ = some (.slice XX nX cX) := (cell_of_row _ _ _ _ _ _ hA9).trans ((cell_of_row _ _ _ _ _ _ HA0.out).symm.trans c7); have f79 := frozen_heap hA9 (o := j * 9 + 7); have lg9 := heap_lt hA9)
      have hm1 := H0.out.mid.extra H.out.y H.out.p H.out.own H.out.pok.1 (X' := .slice A9 (nX + N) c9) (ex' := p.a.extra ++ xs) hg9' (by rw [List.length_append, HnX.out, Hxl.out]; exact hown9) (hat9.elim (fun h => .inl (by rw [HXX.out]; exact h)) (fun h => .inr ⟨_, h, Nat.le_refl _⟩))
      refine wp_at (fun Z => MidC w Z S BB (.slice (some ⟨gI, 0, none⟩) n1 cI) D (L.set i ⟨y.alts.set j ⟨{ p.a with extra := p.a.extra ++ xs }, .slice A9 (nX + N) c9, p.E⟩, y.v⟩)) hm1 (fun Z hZ => ?_)
      have b0 : Z.cell? ⟨BB, 0, none⟩ = some (.int .u16 D.total) := cell_heap hZ.box (o := 0) rfl
      have f0 := frozen_heap hZ.box (o := 0)
      have lBZ := heap_lt hZ.box
      have HZ := hide hZ
      clear hZ hm1 hown9 hg9 hg9' hb9 hat9 hA9 c79 f79 lg9
      go_upto_region 67 with (fail)
      obtain ⟨q1, q2, q3, q4, q5, q6, q7, q8, qs, qd⟩ := Hq.out
      have hsz : sizeS ⟨{ D with total := 4097 }, I.set i (l.set j { p.a with extra := p.a.extra ++ xs })⟩ = 4097 := by
        have h1 := size_at (D := D) (D' := { D with total := 4097 }) (a' := { p.a with extra := p.a.extra ++ xs }) H.out.hl H.out.ha
        have h2 : altSize { p.a with extra := p.a.extra ++ xs } = altSize p.a + xs.length := by unfold altSize; simp; omega
        have h3 := HNz.out
        rw [Hxl.out] at h2
        omega
      have hE : EndC w _ BB n1 cI (some ⟨gI, 0, none⟩) { D with total := 4097 } (I.set i (l.set j { p.a with extra := p.a.extra ++ xs })) := H.out.endAlt (D' := { D with total := 4097 }) (p' := ⟨{ p.a with extra := p.a.extra ++ xs }, .slice A9 (nX + N) c9, p.E⟩) (HZ.out.setBox (D' := { D with total := 4097 }) (o := 0) (u := .int .u16 4097) (by decide) rfl) (by obtain ⟨o1, o2, o3, o4, o5⟩ := qd; exact ⟨(by unfold u16k; simp), o2, o3, o4, o5⟩)
      refine chk_tail hE.kept hE.box hE.cfg hE.len (by rw [hsz]; decide) (lim_size (by rw [hsz]; decide)) HT.out _ ?_
      assumption
end Go.Proofs.YtjgncofhobhjdaaDoor
