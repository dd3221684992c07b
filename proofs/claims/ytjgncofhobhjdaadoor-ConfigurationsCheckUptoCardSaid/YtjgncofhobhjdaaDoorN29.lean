/- A configuration in a box. -/
import Derived.Test.YtjgncofhobhjdaaDoorChecked
import Derived.Deep.RegionHeld3
import Derived.Deep.DrawnRows
import Derived.Deep.DeepCutAuto
import Derived.Deep.LoopGhost
import Derived.Outline
import Derived.Handy
import Derived.OwnWalk
import Derived.BigQuiet
import Derived.Test.YtjgncofhobhjdaaDoorN25
import Derived.Test.YtjgncofhobhjdaaDoorN27
import Derived.Test.YtjgncofhobhjdaaDoorN11
import Derived.Test.YtjgncofhobhjdaaDoorZqK
import Derived.Test.YtjgncofhobhjdaaDoorN9
import Derived.Test.YtjgncofhobhjdaaDoorN28
import Derived.Test.YtjgncofhobhjdaaDoorN1
set_option linter.unusedVariables false
set_option linter.unusedSimpArgs false
set_option linter.unusedSectionVars false
/- Altered configurations in memory, continued: an interface put behind the others; a setting put behind the others of its interface (its own rows empty); a byte or a field of an endpoint written. No condition but those named. -/
namespace Go.Proofs.YtjgncofhobhjdaaDoor
open Go.RowKit

section
variable {base : Nat} {w w1 : World} {v v' : Value} {L : List LF} {i j g : Nat} {y : LF} {p : LA}
theorem LRd.from_ (h : LRd base w v L) (hf : From base w w1) : LRd base w1 v L := ⟨h.own.fromF flat_lf hf, fun y hy => (h.rows y hy).from_ hf⟩
/-- an interface put behind the others -/
theorem LRd.push (h : LRd base w v L) (hgr : w.grownBy w1 v.ownBlock) (ho : Own lfT 50 base w1 v' (L ++ [y]).length (L ++ [y])) (hy : y.rows base w) : LRd base w1 v' (L ++ [y]) := by
  refine ⟨ho, fun z hz => ?_⟩
  rcases List.mem_append.1 hz with hz | hz
  · exact (h.rows z hz).grownI h.own hgr
  · obtain rfl : z = y := by simpa using hz
    exact hy.grownI h.own hgr
theorem LA.apart_none {p q : LA} (hX : p.X.ownBlock = none) (hE : p.E.ownBlock = none) : p.apart q := fun g => ⟨fun e => (by rw [hX] at e; cases e), fun e => (by rw [hE] at e; cases e)⟩
/-- a setting without rows put behind the others of an interface, and the header of their row stored -/
theorem LIs.more (h : LIs base w v L) (hy : L[i]? = some y) (hg : v.ownBlock = some g) (hp : p.rows base w) (hX : p.X.ownBlock = none) (hE : p.E.ownBlock = none) (hgr : w.grownBy w1 y.v.ownBlock) (ho : Own laT 56 base w1 v' (y.alts ++ [p]).length (y.alts ++ [p])) (hm : Moved w y.v v') :
    LIs base (w1.setCell ⟨g, i, none⟩ v') v (L.set i ⟨y.alts ++ [p], v'⟩) := by
  have hr := h.behind hy hg hp hgr ho
  have hapA := h.apA
  rw [List.pairwise_flatMap] at hapA
  obtain ⟨ha1, ha2⟩ := hapA
  have hym := List.mem_of_getElem? hy
  have hmv : ∀ z ∈ L, y.apart z → LF.apart ⟨y.alts ++ [p], v'⟩ z := fun z hz hh k e e' => by
    rcases hm with h1 | ⟨k2, h1, h2⟩
    · exact hh k (h1 ▸ e) e'
    · have := ((h.rows z hz).1.lt e').2
      have e2 : v'.ownBlock = some k := e
      rw [h1] at e2
      injection e2 with e2
      omega
  refine ⟨hr.own, hr.rows, pairwise_set hy (fun z hz hh => hmv z hz hh) (fun z hz hh => LF.apart_symm _ _ (hmv z hz (LF.apart_symm _ _ hh))) h.apI, ?_⟩
  rw [List.pairwise_flatMap]
  refine ⟨fun z hz => ?_, pairwise_set hy (fun z hz hh q hq r hr => ?_) (fun z hz hh q hq r hr => ?_) ha2⟩
  · rcases List.mem_or_eq_of_mem_set hz with hz | rfl
    · exact ha1 z hz
    · rw [List.pairwise_append]
      refine ⟨ha1 y hym, List.pairwise_singleton _ _, fun q hq r hr => ?_⟩
      obtain rfl : r = p := by simpa using hr
      exact LA.apart_symm _ _ (LA.apart_none hX hE)
  · rcases List.mem_append.1 hq with hq | hq
    · exact hh q hq r hr
    · obtain rfl : q = p := by simpa using hq
      exact LA.apart_none hX hE
  · rcases List.mem_append.1 hr with hr | hr
    · exact hh q hq r hr
    · obtain rfl : r = p := by simpa using hr
      exact LA.apart_symm _ _ (LA.apart_none hX hE)
/-- a byte of a vendor's descriptor written -/
theorem LIs.byte (h : LIs base w v L) (hy : L[i]? = some y) (hp : y.alts[j]? = some p) {gX k : Nat} {z z' : Int} (hg : p.X.ownBlock = some gX) (hz : p.a.extra[k]? = some z) (hz' : u8k z') :
    LIs base (w.setCell ⟨gX, k, none⟩ (.int .u8 z')) v (L.set i ⟨y.alts.set j ⟨{ p.a with extra := p.a.extra.set k z' }, p.X, p.E⟩, y.v⟩) := by
  have hyr := h.rows y (List.mem_of_getElem? hy)
  have hpr := hyr.2 p (List.mem_of_getElem? hp)
  have hoth : ∀ b, b ≠ gX → (w.setCell ⟨gX, k, none⟩ (.int .u8 z')).heap[b]? = w.heap[b]? := fun b hb => heap_setCell_other _ _ _ _ hb
  refine h.alter hy hp ?_ ⟨?_, ?_⟩ (.inl rfl) (.inl rfl) (fun b _ _ h2 _ => hoth b (fun e => h2 (e ▸ hg)))
  · have h1 := hyr.1.same (w' := w.setCell ⟨gX, k, none⟩ (.int .u8 z')) flat_la (fun b hb => hoth b fun e => by
      rcases rows_apart hyr.1 hpr.1 (by decide) with h1 | h1
      · rw [h1] at hb; cases hb
      · exact h1 (hb.trans (by rw [e]; exact hg.symm)))
    obtain ⟨o1, cells, o2, o3⟩ := h1
    refine ⟨by rw [alts_len], cells, by rw [alts_len]; exact o2, fun m x hx => ?_⟩
    rw [List.getElem?_set] at hx
    by_cases hjm : j = m
    · subst hjm
      rw [if_pos rfl, if_pos (List.getElem?_eq_some_iff.1 hp).1] at hx
      have hx' : (⟨{ p.a with extra := p.a.extra.set k z' }, p.X, p.E⟩ : LA) = x := by simpa using hx
      rw [← hx']
      exact ⟨(o3 j p hp).1, (o3 j p hp).2⟩
    · rw [if_neg hjm] at hx
      exact o3 m x hx
  · have h1 := hpr.1.setEl (o := 0) (x' := z') (u := .int .u8 z') flat_u8 hg hz (by exact Nat.one_pos) (fun W F cs hr => ⟨by obtain ⟨rfl, _⟩ : cs = [.int .u8 z] ∧ u8k z := hr; rfl, hz'⟩)
    have e : k * u8T.size + 0 = k := by show k * 1 + 0 = k; omega
    rw [e] at h1
    show Own u8T _ _ _ _ (p.a.extra.set k z').length _
    rw [List.length_set]
    exact h1
  · refine hpr.2.same flat_ep (fun b hb => hoth b fun e => ?_)
    rcases rows_apart hpr.2 hpr.1 (by decide) with h1 | h1
    · rw [h1] at hb; cases hb
    · exact h1 (hb.trans (by rw [e]; exact hg.symm))
/-- a field of an endpoint written -/
theorem LIs.epField (h : LIs base w v L) (hy : L[i]? = some y) (hp : y.alts[j]? = some p) {gE k o : Nat} {z z' : EpD} {u : Value} (hg : p.E.ownBlock = some gE) (hz : p.a.eps[k]? = some z) (ho : o < 5) (hc : z'.cells = z.cells.set o u) (hz' : z'.ok) :
    LIs base (w.setCell ⟨gE, k * 5 + o, none⟩ u) v (L.set i ⟨y.alts.set j ⟨{ p.a with eps := p.a.eps.set k z' }, p.X, p.E⟩, y.v⟩) := by
  have hyr := h.rows y (List.mem_of_getElem? hy)
  have hpr := hyr.2 p (List.mem_of_getElem? hp)
  have hoth : ∀ b, b ≠ gE → (w.setCell ⟨gE, k * 5 + o, none⟩ u).heap[b]? = w.heap[b]? := fun b hb => heap_setCell_other _ _ _ _ hb
  refine h.alter hy hp ?_ ⟨?_, ?_⟩ (.inl rfl) (.inl rfl) (fun b _ _ _ h2 => hoth b (fun e => h2 (e ▸ hg)))
  · have h1 := hyr.1.same (w' := w.setCell ⟨gE, k * 5 + o, none⟩ u) flat_la (fun b hb => hoth b fun e => by
      rcases rows_apart hyr.1 hpr.2 (by decide) with h1 | h1
      · rw [h1] at hb; cases hb
      · exact h1 (hb.trans (by rw [e]; exact hg.symm)))
    obtain ⟨o1, cells, o2, o3⟩ := h1
    refine ⟨by rw [alts_len], cells, by rw [alts_len]; exact o2, fun m x hx => ?_⟩
    rw [List.getElem?_set] at hx
    by_cases hjm : j = m
    · subst hjm
      rw [if_pos rfl, if_pos (List.getElem?_eq_some_iff.1 hp).1] at hx
      have hx' : (⟨{ p.a with eps := p.a.eps.set k z' }, p.X, p.E⟩ : LA) = x := by simpa using hx
      rw [← hx']
      exact ⟨(o3 j p hp).1, (o3 j p hp).2⟩
    · rw [if_neg hjm] at hx
      exact o3 m x hx
  · refine hpr.1.same flat_u8 (fun b hb => hoth b fun e => ?_)
    rcases rows_apart hpr.1 hpr.2 (by decide) with h1 | h1
    · rw [h1] at hb; cases hb
    · exact h1 (hb.trans (by rw [e]; exact hg.symm))
  · have h1 := hpr.2.setEl (o := o) (x' := z') (u := u) flat_ep hg hz (by exact ho) (fun W F cs hr => ⟨by obtain ⟨rfl, _⟩ : cs = z.cells ∧ z.ok := hr; exact hc.symm, hz'⟩)
    show Own epT _ _ _ _ (p.a.eps.set k z').length _
    rw [List.length_set]
    exact h1
end
end Go.Proofs.YtjgncofhobhjdaaDoor
/- The law Check: from Encode on. Printed by gen_vc.py. -/
namespace Go.Proofs.YtjgncofhobhjdaaDoor
open Go.RowKit
attribute [local go_sem ↓] Go.wp_at_zero Go.wp_at_succ

noncomputable def code67 : Code := (Tryd.f6.body.bind (fromR 67)).getD .skip
theorem chk_range (c : Cfg) : checkS c = 0 ∨ checkS c = 1 ∨ checkS c = 3 := by
  unfold checkS
  split
  · exact .inr (.inr rfl)
  · split
    · exact .inl rfl
    · exact .inr (.inl rfl)
set_option maxRecDepth 1000000 in
set_option maxHeartbeats 16000000 in
theorem chk_tail {u0 u1 u2 u3 u4 u5 u6 u8 u9 u10 u12 u13 u14 u15 u16 u17 u18 u19 u20 u21 u22 u23 u24 u25 u26 u27 u28 u29 u30 u31 u32 u33 u34 u35 u36 u37 u38 u39 u40 u41 u42 u43 u44 u45 u46 u47 u48 u49 u50 u51 u52 u53 u54 u55 u56 u57 u58 u59 u60 u61 u62 u63 u64 u65 u66 u67 u68 u69 u70 u71 u72 u73 u74 u75 u76 u77 u78 u79 u80 u81 u82 u83 u84 u85 u86 u87 u88 u89 u90 u91 u92 u93 u94 u95 u96 u97 u98 u99 u100 u101 u102 u103 u104 u105 u106 u107 u108 u109 u110 u111 u112 u113 u114 u115 u116 u117 u118 u119 u120 u121 u122 u123 u124 u125 u126 u127 u128 u129 u130 u131 u132 u133 u134 u135 u136 u137 u138 u139 u140 u141 u142 u143 u144 u145 u146 u147 u148 u149 u150 u151 u152 u153 u154 u155 u156 u157 u158 u159 u160 u161 u162 u163 u164 u165 u166 u167 u168 u169 u170 u171 u172 u173 u174 u175 u176 u177 u178 u179 u180 u181 u182 u183 u184 u185 u186 u187 u188 u189 u190 u191 u192 u193 u194 u195 u196 u197 u198 u199 u200 u201 u202 u203 u204 u205 u206 u207 u208 u209 u210 u211 u212 u213 u214 u215 u216 u217 u218 u219 u220 u221 u222 u223 u224 u225 u226 u227 u228 u229 u230 u231 u232 u233 u234 u235 u236 u237 u238 u239 u240 u241 u242 u243 u244 u245 u246 u247 u248 u249 u250 u251 u252 u253 u254 u255 u256 u257 u258 u259 u260 u261 u262 u263 u264 u265 u266 u267 u268 u269 u270 u271 u272 u273 u274 u275 u276 u277 u278 u279 u280 u281 u282 u283 u284 u285 u286 u287 u288 u289 u290 u291 u292 u293 u294 u295 u296 u297 u298 u299 u300 u301 u302 u303 u304 u305 u306 u307 u308 u309 u310 u311 u312 u313 u314 u315 u316 u317 u318 u319 u320 u321 u322 u323 u324 u325 u326 u327 u328 u329 u330 u331 u332 u333 u334 u335 u336 u337 u338 u339 u340 u341 u342 u343 u344 u345 u346 u347 u348 u349 u350 u351 u352 u353 u354 u355 u356 u357 u358 u359 u360 u361 u362 u363 u364 u365 u366 u367 u368 u369 u370 u371 u372 u373 u374 u375 u376 : Value} {w W : World} {BB n c : Nat} {r : Int} {A : Option Addr} {D : CfgD} {I : List (List Alt)} (hkW : Kept w W)
    (hB : W.heap[BB]? = some (.cells #[.int .u16 D.total, .int .u8 D.ifs, .int .u8 D.number, .int .u8 D.text, .bool D.self, .bool D.wake, .int .u8 D.power, .slice A n c] 32 (0, 0))) (h1 : CfgIs W (low W.heap.size) ⟨D, I⟩ A c) (hn : I.length = n) (hz : sizeS ⟨D, I⟩ ≤ 1000000) (hr : checkS ⟨D, I⟩ = r) (hT : Tabs w)
    (K : Act → World → Prop) (hK : ∀ a w', Code.wp Tryd.prog (restC code67) (bodyPost Tryd.prog Tryd.f6 fun e w' => e = .returned (.bool true) ∧ Kept w w') a w' → K a w') :
    Code.wp Tryd.prog (headC code67) (Exit.then K (bodyPost Tryd.prog Tryd.f6 fun e w' => e = .returned (.bool true) ∧ Kept w w')) ⟨#[u0, u1, u2, u3, u4, u5, u6, .pointer (some ⟨BB, 0, none⟩), u8, u9, u10, .int .i64 r, u12, u13, u14, u15, u16, u17, u18, u19, u20, u21, u22, u23, u24, u25, u26, u27, u28, u29, u30, u31, u32, u33, u34, u35, u36, u37, u38, u39, u40, u41, u42, u43, u44, u45, u46, u47, u48, u49, u50, u51, u52, u53, u54, u55, u56, u57, u58, u59, u60, u61, u62, u63, u64, u65, u66, u67, u68, u69, u70, u71, u72, u73, u74, u75, u76, u77, u78, u79, u80, u81, u82, u83, u84, u85, u86, u87, u88, u89, u90, u91, u92, u93, u94, u95, u96, u97, u98, u99, u100, u101, u102, u103, u104, u105, u106, u107, u108, u109, u110, u111, u112, u113, u114, u115, u116, u117, u118, u119, u120, u121, u122, u123, u124, u125, u126, u127, u128, u129, u130, u131, u132, u133, u134, u135, u136, u137, u138, u139, u140, u141, u142, u143, u144, u145, u146, u147, u148, u149, u150, u151, u152, u153, u154, u155, u156, u157, u158, u159, u160, u161, u162, u163, u164, u165, u166, u167, u168, u169, u170, u171, u172, u173, u174, u175, u176, u177, u178, u179, u180, u181, u182, u183, u184, u185, u186, u187, u188, u189, u190, u191, u192, u193, u194, u195, u196, u197, u198, u199, u200, u201, u202, u203, u204, u205, u206, u207, u208, u209, u210, u211, u212, u213, u214, u215, u216, u217, u218, u219, u220, u221, u222, u223, u224, u225, u226, u227, u228, u229, u230, u231, u232, u233, u234, u235, u236, u237, u238, u239, u240, u241, u242, u243, u244, u245, u246, u247, u248, u249, u250, u251, u252, u253, u254, u255, u256, u257, u258, u259, u260, u261, u262, u263, u264, u265, u266, u267, u268, u269, u270, u271, u272, u273, u274, u275, u276, u277, u278, u279, u280, u281, u282, u283, u284, u285, u286, u287, u288, u289, u290, u291, u292, u293, u294, u295, u296, u297, u298, u299, u300, u301, u302, u303, u304, u305, u306, u307, u308, u309, u310, u311, u312, u313, u314, u315, u316, u317, u318, u319, u320, u321, u322, u323, u324, u325, u326, u327, u328, u329, u330, u331, u332, u333, u334, u335, u336, u337, u338, u339, u340, u341, u342, u343, u344, u345, u346, u347, u348, u349, u350, u351, u352, u353, u354, u355, u356, u357, u358, u359, u360, u361, u362, u363, u364, u365, u366, u367, u368, u369, u370, u371, u372, u373, u374, u375, u376], []⟩ W := by
  have hlv := fun w' (hk : Kept w w') => lives_any w' (hT.kept hk)
  have hrr := chk_range ⟨D, I⟩
  rw [hr] at hrr
  have hen : ∀ w', Kept W w' → Calls Tryd.prog 15 #[.agg #[.int .u16 D.total, .int .u8 D.ifs, .int .u8 D.number, .int .u8 D.text, .bool D.self, .bool D.wake, .int .u8 D.power, .slice A n c]] w' (fun e w2 => (∃ A2 n2, e = .returned (.tuple #[.slice A2 n2 n2, .int .i64 r]) ∧ (r ≠ 0 → n2 = 0)) ∧ Kept w' w2) := fun w' hk => by
    have h := (encode_any ⟨D, I⟩ A c w' (h1.kept hk) hz).mono fun e w2 hh => (⟨by obtain ⟨⟨A2, n2, h5, h6⟩, h7⟩ := hh; exact ⟨A2, n2, h5, fun h8 => by rw [← h6.1]; unfold encB; rw [if_neg (by rw [hr]; exact h8)]; rfl⟩, hh.2⟩ : (∃ A2 n2, e = .returned (.tuple #[.slice A2 n2 n2, .int .i64 (checkS ⟨D, I⟩)]) ∧ (r ≠ 0 → n2 = 0)) ∧ Kept w' w2)
    unfold Cfg.cells CfgD.cells at h
    simp only [hn, hr, List.cons_append, List.nil_append] at h
    exact h
  have hck : ∀ w', Kept W w' → Calls Tryd.prog 19 #[.agg #[.int .u16 D.total, .int .u8 D.ifs, .int .u8 D.number, .int .u8 D.text, .bool D.self, .bool D.wake, .int .u8 D.power, .slice A n c]] w' (fun e w2 => e = .returned (.int .i64 r) ∧ Kept w' w2) := fun w' hk => by
    have h := check_any ⟨D, I⟩ A c w' (h1.kept hk) hz
    unfold Cfg.cells CfgD.cells at h
    simp only [hn, hr, List.cons_append, List.nil_append] at h
    exact h
  have htx : ∀ w', Kept W w' → Calls Tryd.prog 21 #[.agg #[.int .u16 D.total, .int .u8 D.ifs, .int .u8 D.number, .int .u8 D.text, .bool D.self, .bool D.wake, .int .u8 D.power, .slice A n c]] w' (fun e w2 => (∃ s, e = .returned (.string s) ∧ (r ≠ 0 → s = (⟨#[]⟩ : ByteArray))) ∧ Kept w' w2) := fun w' hk => by
    have h := (text_any ⟨D, I⟩ A c w' (h1.kept hk) hz (hT.kept (hkW.trans' hk))).mono fun e w2 hh => (⟨⟨_, hh.1, fun h8 => by unfold textS; rw [if_neg (by rw [hr]; exact h8)]; rfl⟩, hh.2⟩ : (∃ s, e = .returned (.string s) ∧ (r ≠ 0 → s = (⟨#[]⟩ : ByteArray))) ∧ Kept w' w2)
    unfold Cfg.cells CfgD.cells at h
    simp only [hn, hr, List.cons_append, List.nil_append] at h
    exact h
  have a0 := cell_heap hB (o := 0) rfl; have a1 := cell_heap hB (o := 1) rfl; have a2 := cell_heap hB (o := 2) rfl; have a3 := cell_heap hB (o := 3) rfl; have a4 := cell_heap hB (o := 4) rfl; have a5 := cell_heap hB (o := 5) rfl; have a6 := cell_heap hB (o := 6) rfl; have a7 := cell_heap hB (o := 7) rfl
  have lA := heap_lt hB
  have HA := hide hB
  have Hkw := hide hkW
  clear h1 hn hz hr hT hB hkW
  conv => arg 2; whnf
  conv at hK => enter [a, w', 1, 2]; whnf
  rcases hrr with rfl | rfl | rfl
  · go_upto_region 68 with (go_at_call 15; refine (hen _ (Below.refl _ _)).mono ?_; rintro e w5 ⟨⟨A2, n2, rfl, hn2⟩, hk5⟩)
    clear hn2
    have hA5 := heap_kept hk5 HA.out
    clear a0 a1 a2 a3 a4 a5 a6 a7 lA
    have a0 := cell_heap hA5 (o := 0) rfl; have a1 := cell_heap hA5 (o := 1) rfl; have a2 := cell_heap hA5 (o := 2) rfl; have a3 := cell_heap hA5 (o := 3) rfl; have a4 := cell_heap hA5 (o := 4) rfl; have a5 := cell_heap hA5 (o := 5) rfl; have a6 := cell_heap hA5 (o := 6) rfl; have a7 := cell_heap hA5 (o := 7) rfl
    have lA := heap_lt hA5
    clear hen
    go_wp2_with (first
      | (go_at_call 13; refine (hlv _ (Hkw.out.trans' hk6W)).mono ?_; rintro e w9 ⟨rfl, hk9⟩)
      
      | (go_at_call 19; refine (hck _ hk5).mono ?_; rintro e w6 ⟨rfl, hk6⟩; have hk6W := hk5.trans' hk6; have hA6 := heap_kept hk6W HA.out; have a60 := cell_heap hA6 (o := 0) rfl; have a61 := cell_heap hA6 (o := 1) rfl; have a62 := cell_heap hA6 (o := 2) rfl; have a63 := cell_heap hA6 (o := 3) rfl; have a64 := cell_heap hA6 (o := 4) rfl; have a65 := cell_heap hA6 (o := 5) rfl; have a66 := cell_heap hA6 (o := 6) rfl; have a67 := cell_heap hA6 (o := 7) rfl; have lA6 := heap_lt hA6))
    go_ret
    exact ⟨rfl, (Hkw.out.trans' hk6W).trans' hk9⟩
  · go_upto_region 68 with (go_at_call 15; refine (hen _ (Below.refl _ _)).mono ?_; rintro e w5 ⟨⟨A2, n2, rfl, hn2⟩, hk5⟩)
    obtain rfl : n2 = 0 := hn2 (by decide)
    have hA5 := heap_kept hk5 HA.out
    clear a0 a1 a2 a3 a4 a5 a6 a7 lA
    have a0 := cell_heap hA5 (o := 0) rfl; have a1 := cell_heap hA5 (o := 1) rfl; have a2 := cell_heap hA5 (o := 2) rfl; have a3 := cell_heap hA5 (o := 3) rfl; have a4 := cell_heap hA5 (o := 4) rfl; have a5 := cell_heap hA5 (o := 5) rfl; have a6 := cell_heap hA5 (o := 6) rfl; have a7 := cell_heap hA5 (o := 7) rfl
    have lA := heap_lt hA5
    clear hen
    go_wp2_with (first
      | (go_at_call 13; refine (hlv _ (Hkw.out.trans' hk7W)).mono ?_; rintro e w9 ⟨rfl, hk9⟩)
      | (go_at_call 21; have hg6 := hk6W; refine (htx _ hk6W).mono ?_; rintro e w7 ⟨⟨s, rfl, hs⟩, hk7⟩; obtain rfl : s = (⟨#[]⟩ : ByteArray) := (hs (by decide)); have hk7W := hk6W.trans' hk7)
      | (go_at_call 19; refine (hck _ hk5).mono ?_; rintro e w6 ⟨rfl, hk6⟩; have hk6W := hk5.trans' hk6; have hA6 := heap_kept hk6W HA.out; have a60 := cell_heap hA6 (o := 0) rfl; have a61 := cell_heap hA6 (o := 1) rfl; have a62 := cell_heap hA6 (o := 2) rfl; have a63 := cell_heap hA6 (o := 3) rfl; have a64 := cell_heap hA6 (o := 4) rfl; have a65 := cell_heap hA6 (o := 5) rfl; have a66 := cell_heap hA6 (o := 6) rfl; have a67 := cell_heap hA6 (o := 7) rfl; have lA6 := heap_lt hA6))
    go_ret
    exact ⟨rfl, (Hkw.out.trans' hk7W).trans' hk9⟩
  · go_upto_region 68 with (go_at_call 15; refine (hen _ (Below.refl _ _)).mono ?_; rintro e w5 ⟨⟨A2, n2, rfl, hn2⟩, hk5⟩)
    obtain rfl : n2 = 0 := hn2 (by decide)
    have hA5 := heap_kept hk5 HA.out
    clear a0 a1 a2 a3 a4 a5 a6 a7 lA
    have a0 := cell_heap hA5 (o := 0) rfl; have a1 := cell_heap hA5 (o := 1) rfl; have a2 := cell_heap hA5 (o := 2) rfl; have a3 := cell_heap hA5 (o := 3) rfl; have a4 := cell_heap hA5 (o := 4) rfl; have a5 := cell_heap hA5 (o := 5) rfl; have a6 := cell_heap hA5 (o := 6) rfl; have a7 := cell_heap hA5 (o := 7) rfl
    have lA := heap_lt hA5
    clear hen
    go_wp2_with (first
      | (go_at_call 13; refine (hlv _ (Hkw.out.trans' hk7W)).mono ?_; rintro e w9 ⟨rfl, hk9⟩)
      | (go_at_call 21; have hg6 := hk6W; refine (htx _ hk6W).mono ?_; rintro e w7 ⟨⟨s, rfl, hs⟩, hk7⟩; obtain rfl : s = (⟨#[]⟩ : ByteArray) := (hs (by decide)); have hk7W := hk6W.trans' hk7)
      | (go_at_call 19; refine (hck _ hk5).mono ?_; rintro e w6 ⟨rfl, hk6⟩; have hk6W := hk5.trans' hk6; have hA6 := heap_kept hk6W HA.out; have a60 := cell_heap hA6 (o := 0) rfl; have a61 := cell_heap hA6 (o := 1) rfl; have a62 := cell_heap hA6 (o := 2) rfl; have a63 := cell_heap hA6 (o := 3) rfl; have a64 := cell_heap hA6 (o := 4) rfl; have a65 := cell_heap hA6 (o := 5) rfl; have a66 := cell_heap hA6 (o := 6) rfl; have a67 := cell_heap hA6 (o := 7) rfl; have lA6 := heap_lt hA6))
    go_ret
    exact ⟨rfl, (Hkw.out.trans' hk7W).trans' hk9⟩
end Go.Proofs.YtjgncofhobhjdaaDoor
/- A configuration in a box, whose rows are the call's own: what stores and appends make of it. No condition but those named. -/
namespace Go.Proofs.YtjgncofhobhjdaaDoor
open Go.RowKit

def cfgBox (D : CfgD) (v : Value) : Array Value := #[.int .u16 D.total, .int .u8 D.ifs, .int .u8 D.number, .int .u8 D.text, .bool D.self, .bool D.wake, .int .u8 D.power, v]
theorem own_ne {α : Type} {t : Ty α} {e e' : TypeId} {w : World} {base n BB : Nat} {v : Value} {xs : List α} {cs : Array Value} {fr : Nat × Nat} (h : Own t e base w v n xs) (hB : w.heap[BB]? = some (.cells cs e' fr)) (hne : e ≠ e') : v.ownBlock ≠ some BB := fun hg => by
  obtain ⟨_, cur, _, hh⟩ := ownBlock_heap h hg
  rw [hB] at hh
  injection hh with hh
  injection hh with _ h2 _
  exact hne h2.symm
section
variable {base S BB : Nat} {w W W1 : World} {v v' : Value} {L : List LF} {D D' : CfgD} {I : List (List Alt)}
theorem LRd.off (h : LRd base W v L) {cs : Array Value} {fr : Nat × Nat} (hB : W.heap[BB]? = some (.cells cs 32 fr)) (hs : ∀ k, k ≠ BB → W1.heap[k]? = W.heap[k]?) : LRd base W1 v L := by
  refine ⟨h.own.same flat_lf fun k hk => hs k fun e => own_ne h.own hB (by decide) (e ▸ hk), fun y hy => ?_⟩
  have hr := h.rows y hy
  refine ⟨hr.1.same flat_la fun k hk => hs k fun e => own_ne hr.1 hB (by decide) (e ▸ hk), fun p hp => ?_⟩
  have hq := hr.2 p hp
  exact ⟨hq.1.same flat_u8 fun k hk => hs k fun e => own_ne hq.1 hB (by decide) (e ▸ hk), hq.2.same flat_ep fun k hk => hs k fun e => own_ne hq.2 hB (by decide) (e ▸ hk)⟩
theorem LIs.off (h : LIs base W v L) {cs : Array Value} {fr : Nat × Nat} (hB : W.heap[BB]? = some (.cells cs 32 fr)) (hs : ∀ k, k ≠ BB → W1.heap[k]? = W.heap[k]?) : LIs base W1 v L :=
  ⟨(h.rd.off hB hs).own, (h.rd.off hB hs).rows, h.apI, h.apA⟩
theorem LRd.keptR (h : LRd base W v L) (hk : Kept W W1) : LRd base W1 v L := ⟨h.own.kept hk, fun y hy => (h.rows y hy).kept hk⟩
/-- at the end: a box, and a configuration that can be read -/
structure EndC (w W : World) (BB n c : Nat) (A : Option Addr) (D : CfgD) (I : List (List Alt)) : Prop where
  kept : Kept w W
  box : W.heap[BB]? = some (.cells (cfgBox D (.slice A n c)) 32 (0, 0))
  cfg : CfgIs W (low W.heap.size) ⟨D, I⟩ A c
  len : I.length = n
/-- between: its rows may be read -/
structure MidR (w W : World) (S BB : Nat) (v : Value) (D : CfgD) (L : List LF) : Prop where
  kept : Kept w W
  low : w.heap.size ≤ S ∧ S ≤ BB
  box : W.heap[BB]? = some (.cells (cfgBox D v) 32 (0, 0))
  lis : LRd S W v L
/-- between: its rows may be written -/
structure MidC (w W : World) (S BB : Nat) (v : Value) (D : CfgD) (L : List LF) : Prop where
  kept : Kept w W
  low : w.heap.size ≤ S ∧ S ≤ BB
  box : W.heap[BB]? = some (.cells (cfgBox D v) 32 (0, 0))
  lis : LIs S W v L
theorem MidC.rd (h : MidC w W S BB v D L) : MidR w W S BB v D L := ⟨h.kept, h.low, h.box, h.lis.rd⟩
theorem MidC.keep (h : MidC w W S BB v D L) (hk : Kept W W1) : MidC w W1 S BB v D L := ⟨h.kept.trans' hk, h.low, heap_kept hk h.box, h.lis.kept hk⟩
theorem MidR.keep (h : MidR w W S BB v D L) (hk : Kept W W1) : MidR w W1 S BB v D L := ⟨h.kept.trans' hk, h.low, heap_kept hk h.box, h.lis.keptR hk⟩
theorem cfgBox_set {o : Nat} {u : Value} (ho : o < 7) (hd : D'.cells = D.cells.set o u) : (cfgBox D v).setIfInBounds o u = cfgBox D' v := by
  have h1 : ∀ d : CfgD, cfgBox d v = (d.cells ++ [v]).toArray := fun d => rfl
  rw [h1, h1, List.setIfInBounds_toArray, List.set_append_left _ _ (by exact ho), hd]
theorem MidR.setBox (h : MidR w W S BB v D L) {o : Nat} {u : Value} (ho : o < 7) (hd : D'.cells = D.cells.set o u) : MidR w (W.setCell ⟨BB, o, none⟩ u) S BB v D' L :=
  ⟨h.kept.setCell (Nat.le_trans h.low.1 h.low.2) _, h.low, by rw [← cfgBox_set ho hd]; exact heap_store h.box _, h.lis.off h.box (fun k hk => heap_setCell_other _ _ _ _ hk)⟩
theorem MidC.setBox (h : MidC w W S BB v D L) {o : Nat} {u : Value} (ho : o < 7) (hd : D'.cells = D.cells.set o u) : MidC w (W.setCell ⟨BB, o, none⟩ u) S BB v D' L :=
  ⟨h.kept.setCell (Nat.le_trans h.low.1 h.low.2) _, h.low, by rw [← cfgBox_set ho hd]; exact heap_store h.box _, h.lis.off h.box (fun k hk => heap_setCell_other _ _ _ _ hk)⟩
section
variable {i j g : Nat} {y : LF} {p : LA}
theorem MidC.row (h : MidC w W S BB v D L) (hy : L[i]? = some y) (hg : y.v.ownBlock = some g) : S ≤ g ∧ g < W.heap.size ∧ BB ≠ g :=
  ⟨((h.lis.rows y (List.mem_of_getElem? hy)).1.lt hg).1, ((h.lis.rows y (List.mem_of_getElem? hy)).1.lt hg).2, fun e => own_ne (h.lis.rows y (List.mem_of_getElem? hy)).1 h.box (by decide) (e ▸ hg)⟩
theorem MidC.field (h : MidC w W S BB v D L) (hy : L[i]? = some y) (hp : y.alts[j]? = some p) (hg : y.v.ownBlock = some g) {d' : IfD} {o : Nat} {u : Value} (ho : o < 7) (hd : d'.cells = p.a.d.cells.set o u) (hok : d'.ok) :
    MidC w (W.setCell ⟨g, j * 9 + o, none⟩ u) S BB v D (L.set i ⟨y.alts.set j ⟨{ p.a with d := d' }, p.X, p.E⟩, y.v⟩) := by
  obtain ⟨h1, h2, h3⟩ := h.row hy hg
  exact ⟨h.kept.setCell (Nat.le_trans h.low.1 h1) _, h.low, heap_other h.box h3, h.lis.field hy hp hg ho hd hok⟩
theorem MidC.grownKept (h : MidC w W S BB v D L) {b : Option Nat} (hgr : W.grownBy W1 b) (hb : ∀ k, b = some k → S ≤ k) : Kept w W1 :=
  h.kept.trans ((Below.refl _ _).grown hgr h.kept.size (fun k hk => Nat.le_trans h.low.1 (hb k hk)))
theorem MidC.extra (h : MidC w W S BB v D L) (hy : L[i]? = some y) (hp : y.alts[j]? = some p) (hg : y.v.ownBlock = some g) (hd : p.a.d.ok) {X' : Value} {ex' : List Int} (hgr : W.grownBy W1 p.X.ownBlock) (ho : Own u8T 5 S W1 X' ex'.length ex') (hm : Moved W p.X X') :
    MidC w (W1.setCell ⟨g, j * 9 + 7, none⟩ X') S BB v D (L.set i ⟨y.alts.set j ⟨{ p.a with extra := ex' }, X', p.E⟩, y.v⟩) := by
  obtain ⟨h1, h2, h3⟩ := h.row hy hg
  have hr := (h.lis.rows y (List.mem_of_getElem? hy)).2 p (List.mem_of_getElem? hp)
  exact ⟨(h.grownKept hgr (fun k hk => (hr.1.lt hk).1)).setCell (Nat.le_trans h.low.1 h1) _, h.low, heap_other (heap_grown hgr h.box (fun e => own_ne hr.1 h.box (by decide) e.symm)) h3, h.lis.extra hy hp hg hd hgr ho hm⟩
theorem MidC.eps (h : MidC w W S BB v D L) (hy : L[i]? = some y) (hp : y.alts[j]? = some p) (hg : y.v.ownBlock = some g) (hd : p.a.d.ok) {E' : Value} {es' : List EpD} (hgr : W.grownBy W1 p.E.ownBlock) (ho : Own epT 59 S W1 E' es'.length es') (hm : Moved W p.E E') :
    MidC w (W1.setCell ⟨g, j * 9 + 8, none⟩ E') S BB v D (L.set i ⟨y.alts.set j ⟨{ p.a with eps := es' }, p.X, E'⟩, y.v⟩) := by
  obtain ⟨h1, h2, h3⟩ := h.row hy hg
  have hr := (h.lis.rows y (List.mem_of_getElem? hy)).2 p (List.mem_of_getElem? hp)
  exact ⟨(h.grownKept hgr (fun k hk => (hr.2.lt hk).1)).setCell (Nat.le_trans h.low.1 h1) _, h.low, heap_other (heap_grown hgr h.box (fun e => own_ne hr.2 h.box (by decide) e.symm)) h3, h.lis.eps hy hp hg hd hgr ho hm⟩
theorem MidC.more (h : MidC w W S BB v D L) (hy : L[i]? = some y) {gI : Nat} (hg : v.ownBlock = some gI) (hp : p.rows S W) (hX : p.X.ownBlock = none) (hE : p.E.ownBlock = none) (hgr : W.grownBy W1 y.v.ownBlock) (ho : Own laT 56 S W1 v' (y.alts ++ [p]).length (y.alts ++ [p])) (hm : Moved W y.v v') :
    MidC w (W1.setCell ⟨gI, i, none⟩ v') S BB v D (L.set i ⟨y.alts ++ [p], v'⟩) := by
  have hr := (h.lis.rows y (List.mem_of_getElem? hy)).1
  have h1 := (h.lis.own.lt hg).1
  exact ⟨(h.grownKept hgr (fun k hk => (hr.lt hk).1)).setCell (Nat.le_trans h.low.1 h1) _, h.low, heap_other (heap_grown hgr h.box (fun e => own_ne hr h.box (by decide) e.symm)) (fun e => own_ne h.lis.own h.box (by decide) (e ▸ hg)), h.lis.more hy hg hp hX hE hgr ho hm⟩
theorem MidR.push (h : MidR w W S BB v D L) (hgr : W.grownBy W1 v.ownBlock) (ho : Own lfT 50 S W1 v' (L ++ [y]).length (L ++ [y])) (hy : y.rows S W) : MidR w (W1.setCell ⟨BB, 7, none⟩ v') S BB v' D (L ++ [y]) := by
  have hk : Kept w W1 := h.kept.trans ((Below.refl _ _).grown hgr h.kept.size (fun k hk => Nat.le_trans h.low.1 (h.lis.own.lt hk).1))
  have hb := heap_grown hgr h.box (fun e => own_ne h.lis.own h.box (by decide) e.symm)
  exact ⟨hk.setCell (Nat.le_trans h.low.1 h.low.2) _, h.low, heap_store hb _, (h.lis.push hgr ho hy).off hb (fun k hk => heap_setCell_other _ _ _ _ hk)⟩
end
theorem MidR.end_ {A : Option Addr} {n c : Nat} (h : MidR w W S BB (.slice A n c) D L) (hd : D.ok) (hp : plainL L = I) (hn : I.length = n) (hc : n ≤ c) (hm : c ≤ maxLen) : EndC w W BB n c A D I := by
  have hl : L.length = n := by rw [← hn, ← hp]; unfold plainL; rw [List.length_map]
  have hs := h.lis.sl hl
  rw [hp] at hs
  subst hn
  have hcf : CfgIs W (fun b => S ≤ b ∧ b < W.heap.size) ⟨D, I⟩ A c := ⟨hd, hc, hm, hs⟩
  exact ⟨h.kept, h.box, hcf.keep (fun b hb => hb.2) (fun _ _ _ => rfl), rfl⟩
end
/-- the law's state behind the choice of a setting -/
structure CK (w Y : World) (S BB gI g n1 cI m cA i j : Nat) (D : CfgD) (I : List (List Alt)) (ll : List Alt) (L : List LF) (yy : LF) (pp : LA) : Prop where
  mid : MidC w Y S BB (.slice (some ⟨gI, 0, none⟩) n1 cI) D L
  pl : plainL L = I
  chk : CheckC ⟨D, I⟩
  size : sizeS ⟨D, I⟩ ≤ 3129
  ok : Cfg.ok ⟨D, I⟩
  many : I.length = n1 ∧ n1 ≤ 6 ∧ L.length = n1
  cap : n1 ≤ cI ∧ cI ≤ maxLen ∧ m ≤ cA ∧ cA ≤ maxLen
  y : L[i]? = some yy
  p : yy.alts[j]? = some pp
  v : yy.v = .slice (some ⟨g, 0, none⟩) m cA
  len : yy.alts.length = m
  l : ll = yy.alts.map LA.a
section
variable {w Y : World} {S BB gI g n1 cI m cA i j : Nat} {D D' : CfgD} {I : List (List Alt)} {l : List Alt} {L : List LF} {y : LF} {p : LA}
theorem CK.hl (h : CK w Y S BB gI g n1 cI m cA i j D I l L y p) : I[i]? = some l := by
  rw [← h.pl, h.l]; unfold plainL; rw [List.getElem?_map, h.y]; rfl
theorem CK.ha (h : CK w Y S BB gI g n1 cI m cA i j D I l L y p) : l[j]? = some p.a := by
  rw [h.l, List.getElem?_map, h.p]; rfl
theorem CK.pok (h : CK w Y S BB gI g n1 cI m cA i j D I l L y p) : p.a.ok := h.ok.2 l (List.mem_of_getElem? h.hl) p.a (List.mem_of_getElem? h.ha)
theorem CK.own (h : CK w Y S BB gI g n1 cI m cA i j D I l L y p) : y.v.ownBlock = some g := by rw [h.v]; rfl
theorem CK.psize (h : CK w Y S BB gI g n1 cI m cA i j D I l L y p) : altSize p.a ≤ 3129 := by
  have h1 := alt_le (List.mem_of_getElem? h.ha)
  have h2 := if_le (List.mem_of_getElem? h.hl)
  have h3 := h.size
  rw [sizeS_eq] at h3
  have h4 : 9 + sumC I ≤ 3129 := h3
  omega
theorem CK.rows (h : CK w Y S BB gI g n1 cI m cA i j D I l L y p) : p.rows S Y := (h.mid.lis.rows y (List.mem_of_getElem? h.y)).2 p (List.mem_of_getElem? h.p)
theorem CK.heapA (h : CK w Y S BB gI g n1 cI m cA i j D I l L y p) : ∃ cur, Y.heap[g]? = some (.cells cur 56 (0, 0)) := by
  obtain ⟨_, cur, _, hh⟩ := ownBlock_heap (h.mid.lis.rows y (List.mem_of_getElem? h.y)).1 h.own
  exact ⟨cur, hh⟩
theorem CK.heapI (h : CK w Y S BB gI g n1 cI m cA i j D I l L y p) : ∃ cur, Y.heap[gI]? = some (.cells cur 50 (0, 0)) := by
  obtain ⟨_, cur, _, hh⟩ := ownBlock_heap h.mid.lis.own rfl
  exact ⟨cur, hh⟩
theorem CK.cells (h : CK w Y S BB gI g n1 cI m cA i j D I l L y p) : ∀ (o : Nat) u, p.cells[o]? = some u → Y.cell? ⟨g, j * 9 + o, none⟩ = some u := by
  have h1 := (h.mid.lis.rows y (List.mem_of_getElem? h.y)).1
  rw [h.v, h.len] at h1
  exact own_cells (j := j) (cs := p.cells) h1 h.p (fun F c hr => hr.1)
theorem CK.cellI (h : CK w Y S BB gI g n1 cI m cA i j D I l L y p) : Y.cell? ⟨gI, i, none⟩ = some (.slice (some ⟨g, 0, none⟩) m cA) := by
  have h1 := h.mid.lis.own
  rw [h.many.2.2] at h1
  have h2 := own_cells (j := i) (cs := [y.v]) h1 h.y (fun F c hr => hr.1) 0 _ rfl
  rw [← h.v]
  simpa [lfT, Ty.flat] using h2
/-- which rows are apart from the row of the settings -/
theorem CK.neX (h : CK w Y S BB gI g n1 cI m cA i j D I l L y p) : p.X.ownBlock ≠ some g := fun e => by
  rcases rows_apart h.rows.1 (h.mid.lis.rows y (List.mem_of_getElem? h.y)).1 (by decide) with h1 | h1
  · rw [h1] at e; cases e
  · exact h1 (e.trans h.own.symm)
theorem CK.neE (h : CK w Y S BB gI g n1 cI m cA i j D I l L y p) : p.E.ownBlock ≠ some g := fun e => by
  rcases rows_apart h.rows.2 (h.mid.lis.rows y (List.mem_of_getElem? h.y)).1 (by decide) with h1 | h1
  · rw [h1] at e; cases e
  · exact h1 (e.trans h.own.symm)
theorem CK.keep {Y1 : World} (h : CK w Y S BB gI g n1 cI m cA i j D I l L y p) (hk : Kept Y Y1) : CK w Y1 S BB gI g n1 cI m cA i j D I l L y p := ⟨h.mid.keep hk, h.pl, h.chk, h.size, h.ok, h.many, h.cap, h.y, h.p, h.v, h.len, h.l⟩
/-- the box alone has been written -/
theorem CK.endBox {W : World} (h : CK w Y S BB gI g n1 cI m cA i j D I l L y p) (hm : MidC w W S BB (.slice (some ⟨gI, 0, none⟩) n1 cI) D' L) (hd : D'.ok) : EndC w W BB n1 cI (some ⟨gI, 0, none⟩) D' I :=
  hm.rd.end_ hd h.pl h.many.1 h.cap.1 h.cap.2.1
/-- a setting has been altered -/
theorem CK.endAlt {W : World} {p' : LA} (h : CK w Y S BB gI g n1 cI m cA i j D I l L y p) (hm : MidC w W S BB (.slice (some ⟨gI, 0, none⟩) n1 cI) D' (L.set i ⟨y.alts.set j p', y.v⟩)) (hd : D'.ok) : EndC w W BB n1 cI (some ⟨gI, 0, none⟩) D' (I.set i (l.set j p'.a)) :=
  hm.rd.end_ hd (by rw [plainL_set (l := l) (by rw [h.pl]; exact h.hl) h.l, h.pl]) (by rw [List.length_set]; exact h.many.1) h.cap.1 h.cap.2.1
end
end Go.Proofs.YtjgncofhobhjdaaDoor
