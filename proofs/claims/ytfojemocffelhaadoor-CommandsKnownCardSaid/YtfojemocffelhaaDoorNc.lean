/- CommandsInquiry: the capacities and the bytes. -/
import Derived.Test.YtfojemocffelhaaDoorChecked
import Derived.Deep.RegionHeld3
import Derived.Deep.DrawnRows
import Derived.Deep.DeepCutAuto
import Derived.Deep.LoopGhost
import Derived.Outline
import Derived.Handy
import Derived.OwnWalk
import Derived.IntWalk
import Derived.Test.YtfojemocffelhaaDoorNb
import Derived.Test.YtfojemocffelhaaDoorSy
import Derived.Deep.QuietTactic
import Derived.BigQuiet
set_option linter.unusedVariables false
set_option linter.unusedSimpArgs false
set_option linter.unusedSectionVars false
/- CommandsInquiry: the capacities. -/
namespace Go.Proofs.YtfojemocffelhaaDoor
open Go.RowKit Go.Shelf
attribute [local go_sem ↓] Go.wp_at_zero Go.wp_at_succ

theorem acc4i {n : Nat} (h : n < 4294967296) : accN [byteOf n 3, byteOf n 2, byteOf n 1, byteOf n 0] = n := by
  have h3 := byte3 h
  have h2 := byte2 n
  have h1 := byte1 n
  have h0 := byte0 n
  simp only [accN, List.foldl_cons, List.foldl_nil]
  omega
/-- the code from a region on -/
def fromR (k : Nat) : Code → Option Code
  | .seq (.region i o b) c => if i = k then some (.seq (.region i o b) c) else fromR k c
  | .seq _ c => fromR k c
  | .block _ c => fromR k c
  | .scope c => fromR k c
  | _ => none
def headC : Code → Code
  | .seq a _ => a
  | c => c
def restC : Code → Code
  | .seq _ b => b
  | _ => .skip
noncomputable def codeC : Code := (Tryd.f7.body.bind (fromR 26)).getD .skip
theorem bs_of {w : World} {g : Nat} {l : List UInt8} (h : ∀ (j : Nat) v, (u8C l)[j]? = some v → w.cell? ⟨g, j, none⟩ = some v) (hl : 0 < l.length) : Bs w g 0 l := by
  have hx : ∀ (j : Nat) (x : UInt8), l[j]? = some x → w.cell? ⟨g, j, none⟩ = some (.int .u8 (x.toNat : Int)) := fun j x hx => h j _ (by unfold u8C; rw [List.getElem?_map, hx]; rfl)
  exact ⟨World.block_lt_of_cell? w _ (hx 0 _ (List.getElem?_eq_getElem hl)), fun j x h => by rw [Nat.zero_add]; exact hx j x h⟩
set_option maxRecDepth 1000000 in
set_option maxHeartbeats 8000000 in
theorem inqC {u0 u1 u2 u3 u4 u6 u7 u8 u9 u10 u11 u12 u13 u14 u15 u16 u17 u18 u19 u20 u21 u22 u23 u24 u25 u26 u27 u28 u29 u30 u31 u32 u33 u34 u35 u36 u37 u38 u39 u40 u41 u42 u43 u44 u45 u46 u47 u48 u49 u50 u51 u52 u53 u54 u55 u56 u57 u58 u59 u60 u61 u62 u63 u64 u65 u66 u67 u68 u69 u70 u71 u72 u73 u74 u75 u76 u77 u78 u79 u80 u81 u82 u83 u84 u85 u86 u87 u88 u89 u90 u91 u92 u93 u94 u95 u96 u97 u98 u99 u100 u101 u102 u103 u104 u105 u106 u107 u108 u109 u110 u111 u112 u113 u114 u115 u116 u117 u118 u119 u120 u121 u122 u123 u124 u125 u126 u127 u128 u129 u130 u131 u132 u133 u134 u135 u136 u137 u138 u139 u140 u141 u142 u143 u144 u145 u146 u147 u148 u149 u150 u151 u152 u153 u154 u155 u156 u157 u158 u159 u160 u161 u162 u163 u164 u165 u166 u167 u168 u169 u170 u171 u172 u173 u174 u175 u176 u177 u178 u179 u180 u181 u182 u183 u184 u185 u186 u187 u188 u189 u190 u191 u192 u193 u194 u195 u196 u197 u198 u199 u200 u201 u202 u203 u204 u205 u206 u207 u208 u209 u210 u211 u212 u213 u214 u215 u216 u217 u218 u219 u220 u221 u222 u223 u224 u225 u226 u227 u228 u229 u230 u231 u232 u233 u234 u235 u236 u237 u238 u239 u240 u241 u242 u243 u244 u245 u246 u247 u248 u249 u250 u251 u252 u253 u254 u255 u256 u257 u258 u259 u260 u261 u262 u263 u264 u265 u266 u267 u268 u269 u270 u271 u272 u273 u274 u275 u276 u277 u278 u279 u280 u281 u282 u283 u284 u285 u286 u287 u288 u289 u290 u291 u292 u293 u294 u295 u296 u297 u298 u299 u300 u301 u302 u303 u304 u305 u306 u307 u308 u309 u310 u311 u312 u313 u314 u315 u316 u317 u318 u319 u320 u321 u322 u323 u324 : Value} (Y y z : Nat) (w W : World) (hT : Tabs W) (hy : y < 4294967296) (hz : z < 4294967296) (hby : W.heap[Y]? = some (.cells #[.int .u32 y, .int .u32 z] 57 (0, 0))) (hkW : Kept w W)
    (K : Act → World → Prop) (hK : ∀ a w', Code.wp Tryd.prog (restC codeC) (bodyPost Tryd.prog Tryd.f7 fun e w' => e = .returned (.bool true) ∧ Kept w w') a w' → K a w') :
    Code.wp Tryd.prog (headC codeC) (Exit.then K (bodyPost Tryd.prog Tryd.f7 fun e w' => e = .returned (.bool true) ∧ Kept w w')) ⟨#[u0, u1, u2, u3, u4, .pointer (some ⟨Y, 0, none⟩), u6, u7, u8, u9, u10, u11, u12, u13, u14, u15, u16, u17, u18, u19, u20, u21, u22, u23, u24, u25, u26, u27, u28, u29, u30, u31, u32, u33, u34, u35, u36, u37, u38, u39, u40, u41, u42, u43, u44, u45, u46, u47, u48, u49, u50, u51, u52, u53, u54, u55, u56, u57, u58, u59, u60, u61, u62, u63, u64, u65, u66, u67, u68, u69, u70, u71, u72, u73, u74, u75, u76, u77, u78, u79, u80, u81, u82, u83, u84, u85, u86, u87, u88, u89, u90, u91, u92, u93, u94, u95, u96, u97, u98, u99, u100, u101, u102, u103, u104, u105, u106, u107, u108, u109, u110, u111, u112, u113, u114, u115, u116, u117, u118, u119, u120, u121, u122, u123, u124, u125, u126, u127, u128, u129, u130, u131, u132, u133, u134, u135, u136, u137, u138, u139, u140, u141, u142, u143, u144, u145, u146, u147, u148, u149, u150, u151, u152, u153, u154, u155, u156, u157, u158, u159, u160, u161, u162, u163, u164, u165, u166, u167, u168, u169, u170, u171, u172, u173, u174, u175, u176, u177, u178, u179, u180, u181, u182, u183, u184, u185, u186, u187, u188, u189, u190, u191, u192, u193, u194, u195, u196, u197, u198, u199, u200, u201, u202, u203, u204, u205, u206, u207, u208, u209, u210, u211, u212, u213, u214, u215, u216, u217, u218, u219, u220, u221, u222, u223, u224, u225, u226, u227, u228, u229, u230, u231, u232, u233, u234, u235, u236, u237, u238, u239, u240, u241, u242, u243, u244, u245, u246, u247, u248, u249, u250, u251, u252, u253, u254, u255, u256, u257, u258, u259, u260, u261, u262, u263, u264, u265, u266, u267, u268, u269, u270, u271, u272, u273, u274, u275, u276, u277, u278, u279, u280, u281, u282, u283, u284, u285, u286, u287, u288, u289, u290, u291, u292, u293, u294, u295, u296, u297, u298, u299, u300, u301, u302, u303, u304, u305, u306, u307, u308, u309, u310, u311, u312, u313, u314, u315, u316, u317, u318, u319, u320, u321, u322, u323, u324], []⟩ W := by
  conv => arg 2; whnf
  conv at hK => enter [a, w', 1, 2]; whnf
  have cy0 := cell_heap (o := 0) hby rfl
  have cy1 := cell_heap (o := 1) hby rfl
  have hYl := heap_lt hby
  have hcap : ∀ w, _ := fun w => capacity_any y z w hy hz
  have hdc : ∀ w g, Bs w g 0 (be4 y ++ be4 z) → _ := fun w g hB => dcap_ok g 0 8 (be4 y) (be4 z) w rfl rfl (Nat.le_refl _) hB
  rw [show accN (be4 y) = y from acc4i hy, show accN (be4 z) = z from acc4i hz] at hdc
  go_upto_region 28 with (first
    | (go_at_call 25; refine (hcap _).mono ?_; rintro e w1 ⟨g, rfl, hg, hcell, hk1⟩; have hB1 := Lib.hid (bs_of hcell (show 0 < 8 by decide)); clear hcell)
    | (go_at_call 26; refine (hdc _ g hB1.out).mono ?_; rintro e w2 ⟨rfl, hk2⟩))
  refine wp_at (fun W3 => W3.heap[Y]? = some (.cells #[.int .u32 y, .int .u32 z] 57 (0, 0)) ∧ W3.heap[w2.heap.size]? = some (.cells #[.int .u32 y, .int .u32 z] 57 (0, 0)) ∧ Bs W3 g 0 (be4 y ++ be4 z) ∧ Kept W W3)
    ⟨heap_past (heap_kept hk2 (heap_kept hk1 hby)), heap_at _ rfl, (hB1.out.kept hk2).kept ((Below.refl _ _).alloc (Nat.le_refl _) _), (hk1.trans (hk2.mono hk1.size)).trans ((Below.refl _ _).alloc (Nat.le_trans hk1.size hk2.size) _)⟩ (fun W3 hW3 => ?_)
  obtain ⟨hby3, hg3, hB3, hk3⟩ := hW3
  obtain ⟨G, hG⟩ : ∃ G, w2.heap.size = G := ⟨_, rfl⟩
  rw [hG] at hg3 ⊢
  clear hG hk1 hk2 hB1 hby cy0 cy1 hYl hcap hdc hg w1 w2
  obtain ⟨i5, hi5, hz50, hz51, hz52⟩ := info_parts info5
  have hlit : Own byT 5 W3.heap.size (W3.alloc (.cells #[] 5)) (.slice (some ⟨W3.heap.size, 0, none⟩) 0 0) 0 [] := Own.lit0 byT 5 _ (Nat.le_refl _) (heap_alloc_new W3 _)
  have hsE : Sl byT (W3.alloc (.cells #[] 5)) (apart (W3.alloc (.cells #[] 5)) (.slice (some ⟨W3.heap.size, 0, none⟩) 0 0)) (some ⟨g, 0, none⟩) 8 (be4 y ++ be4 z) :=
    Bs.slF (hB3.kept ((Below.refl _ _).alloc (Nat.le_refl _) _)) rfl ⟨by have := hB3.1; simp; omega, by simp [Value.ownBlock]; have := hB3.1; omega⟩
  replace hsE := Lib.hid hsE
  replace hlit := Lib.hid hlit
  have hgl := hB3.1
  replace hB3 := Lib.hid hB3
  replace hby3 := Lib.hid hby3
  replace hg3 := Lib.hid hg3
  go_upto_region 29 with (first
    | (at_builtin; refine wpList_append_sl (T := byT) rfl (.tmp 256) (.tmp 257) 32 rfl W3.heap.size 5 i5 _ 1 Tryd.underlying32 hi5 hz50 hz51 hz52 rfl (by decide) _ 0 [] (by rfl) hlit.out _ 8 8 (be4 y ++ be4 z) (by rfl) hsE.out by_one (by unfold maxLen; omega) (by omega) (by simp) ?_; intro v7 w7 hown7 hg7 hb7 hat7; rw [Nat.zero_add, List.nil_append] at hown7; have hk7 : Kept W3 w7 := ((Below.refl _ W3).alloc (Nat.le_refl _) _).trans hb7; clear hg7 hat7 hb7 hsE hlit)
    | (at_builtin; refine wpList_append_el (T := byT) rfl (.tmp 258) (.tmp 259) 32 rfl W3.heap.size 5 i5 _ 1 Tryd.underlying32 hi5 hz50 hz51 hz52 rfl (by decide) _ 8 _ (by rfl) (hown7.alloc _) _ _ _ (0 : UInt8) (by rfl) (heap_alloc_new w7 _) ⟨rfl, trivial⟩ (by simp [Value.oneCell']) (by unfold maxLen; omega) (by omega) (by have := hk7.size; simp only [World.size_alloc]; omega) ?_; intro g8 cap8 w8 hown8 hg8 hb8 hat8 hlt8; have hk8 : Kept W3 w8 := (hk7.alloc hk7.size _).trans hb8; clear hown7 hown8 hg8 hb8 hat8)
    | (go_at_call 26; refine (dcap_bad (some ⟨g8, 0, none⟩) 9 cap8 w8 (by decide)).mono ?_; rintro e w9 ⟨rfl, hk9⟩; have hk9 : Kept W3 w9 := hk8.trans (hk9.mono hk8.size)))
  refine wp_at (fun W4 => W4.heap[Y]? = some (.cells #[.int .u32 y, .int .u32 z] 57 (0, 0)) ∧ W4.heap[G]? = some (.cells #[.int .u32 y, .int .u32 z] 57 (0, 0)) ∧ Bs W4 g 0 (be4 y ++ be4 z) ∧ Kept W W4)
    ⟨heap_past (heap_kept hk9 hby3.out), heap_past (heap_kept hk9 hg3.out), (hB3.out.kept hk9).kept ((Below.refl _ _).alloc (Nat.le_refl _) _), (hk3.trans (hk9.mono hk3.size)).trans ((Below.refl _ _).alloc (Nat.le_trans hk3.size hk9.size) _)⟩ (fun W4 hW4 => ?_)
  obtain ⟨hby4, hg4, hB4, hk4⟩ := hW4
  clear hk9 hk8 hk7 hby3 hg3 hB3 hgl hk3
  replace hB4 := Lib.hid hB4
  replace hby4 := Lib.hid hby4
  replace hg4 := Lib.hid hg4
  go_upto_region 30 with (go_at_call 26; refine (dcap_bad none 0 0 _ (by decide)).mono ?_; rintro e w10 ⟨rfl, hk10⟩)
  refine wp_at (fun W5 => W5.heap[Y]? = some (.cells #[.int .u32 y, .int .u32 z] 57 (0, 0)) ∧ W5.heap[G]? = some (.cells #[.int .u32 y, .int .u32 z] 57 (0, 0)) ∧ Bs W5 g 0 (be4 y ++ be4 z) ∧ Kept W W5)
    ⟨heap_past (heap_kept hk10 hby4.out), heap_past (heap_kept hk10 hg4.out), (hB4.out.kept hk10).kept ((Below.refl _ _).alloc (Nat.le_refl _) _), (hk4.trans (hk10.mono hk4.size)).trans ((Below.refl _ _).alloc (Nat.le_trans hk4.size hk10.size) _)⟩ (fun W5 hW5 => ?_)
  obtain ⟨hby5, hg5, hB5, hk5⟩ := hW5
  have hT5 := hT.kept hk5
  have cy0 : W5.cell? ⟨Y, 0, none⟩ = some (.int .u32 y) := cell_heap hby5 rfl
  have cy1 : W5.cell? ⟨Y, 1, none⟩ = some (.int .u32 z) := cell_heap hby5 rfl
  have cg0 : W5.cell? ⟨G, 0, none⟩ = some (.int .u32 y) := cell_heap hg5 rfl
  have cg1 : W5.cell? ⟨G, 1, none⟩ = some (.int .u32 z) := cell_heap hg5 rfl
  have cb0 := hB5.2 0 _ rfl
  have cb3 := hB5.2 3 _ rfl
  have cb6 := hB5.2 6 _ rfl
  rw [byte3 hy] at cb0
  rw [byte0 y] at cb3
  rw [byte1 z] at cb6
  have lY := heap_lt hby5
  have lG := heap_lt hg5
  have lg := hB5.1
  have hw0 : IntKind.u8.wrap ((y : Int) / 16777216) = (y : Int) / 16777216 := IntWalk.u8_in _ (by omega)
  have hw3 : IntKind.u8.wrap (y : Int) = (y : Int) % 256 := by rw [IntKind.wrap_u8]
  have hw6 : IntKind.u8.wrap ((z : Int) / 256) = (z : Int) / 256 % 256 := by rw [IntKind.wrap_u8]
  clear hby5 hg5 hB5 hby4 hg4 hB4 hk10 hk4
  refine wp_region_held_drew (S := fun w' => (∀ b o, b < W5.heap.size → w'.cell? ⟨b, o, none⟩ = W5.cell? ⟨b, o, none⟩) ∧ Below W5.heap.size W5 w') (by kernel_rfl) since_start (fun hS => ?_)
  refine wpAnyH_take (i := 0) (v := ?_) rfl (by kernel_rfl) (by kernel_rfl) (by kernel_rfl) (fun _ _ _ h => h) (Or.inl ⟨by kernel_rfl, ?_⟩) hS ?_
  rotate_left
  · intro w' hS'
    have hq := hS'.1
    have hq2 := hS'.2
    clear hS'
    first | (go_simp; done) | (go_simp; with_reducible rfl)
  try simp only [Act.put, List.getElem_toArray, List.getElem_cons_zero, List.getElem_cons_succ, List.setIfInBounds_toArray, List.set_cons_zero, List.set_cons_succ]
  refine wpAnyH_take (i := 1) (v := ?_) rfl (by kernel_rfl) (by kernel_rfl) (by kernel_rfl) (fun _ _ _ h => h) (Or.inl ⟨by kernel_rfl, ?_⟩) hS ?_
  rotate_left
  · intro w' hS'
    have hq := hS'.1
    have hq2 := hS'.2
    clear hS'
    first | (go_simp; done) | (go_simp; with_reducible rfl)
  try simp only [Act.put, List.getElem_toArray, List.getElem_cons_zero, List.getElem_cons_succ, List.setIfInBounds_toArray, List.set_cons_zero, List.set_cons_succ]
  refine wpAnyH_take (i := 2) (v := ?_) rfl (by kernel_rfl) (by kernel_rfl) (by kernel_rfl) (fun _ _ _ h => h) (Or.inl ⟨by kernel_rfl, ?_⟩) hS ?_
  rotate_left
  · intro w' hS'
    have hq := hS'.1
    have hq2 := hS'.2
    clear hS'
    first | (go_simp; done) | (go_simp; with_reducible rfl)
  try simp only [Act.put, List.getElem_toArray, List.getElem_cons_zero, List.getElem_cons_succ, List.setIfInBounds_toArray, List.set_cons_zero, List.set_cons_succ]
  refine wpAnyH_take (i := 3) (v := ?_) rfl (by kernel_rfl) (by kernel_rfl) (by kernel_rfl) (fun _ _ _ h => h) (Or.inl ⟨by kernel_rfl, ?_⟩) hS ?_
  rotate_left
  · intro w' hS'
    have hq := hS'.1
    have hq2 := hS'.2
    clear hS'
    first | (go_simp; done) | (go_simp; with_reducible rfl)
  try simp only [Act.put, List.getElem_toArray, List.getElem_cons_zero, List.getElem_cons_succ, List.setIfInBounds_toArray, List.set_cons_zero, List.set_cons_succ]
  refine wpAnyH_take (i := 4) (v := ?_) rfl (by kernel_rfl) (by kernel_rfl) (by kernel_rfl) (fun _ _ _ h => h) (Or.inl ⟨by kernel_rfl, ?_⟩) hS ?_
  rotate_left
  · intro w' hS'
    have hq := hS'.1
    have hq2 := hS'.2
    clear hS'
    first | (go_simp; done) | (go_simp; with_reducible rfl)
  try simp only [Act.put, List.getElem_toArray, List.getElem_cons_zero, List.getElem_cons_succ, List.setIfInBounds_toArray, List.set_cons_zero, List.set_cons_succ]
  refine wpAnyH_take (i := 5) (v := ?_) rfl (by kernel_rfl) (by kernel_rfl) (by kernel_rfl) (fun _ _ _ h => h) (Or.inl ⟨by kernel_rfl, ?_⟩) hS ?_
  rotate_left
  · intro w' hS'
    have hq := hS'.1
    have hq2 := hS'.2
    clear hS'
    first | (go_simp; done) | (go_simp; with_reducible rfl)
  try simp only [Act.put, List.getElem_toArray, List.getElem_cons_zero, List.getElem_cons_succ, List.setIfInBounds_toArray, List.set_cons_zero, List.set_cons_succ]
  refine wpAnyH_take (i := 6) (v := ?_) rfl (by kernel_rfl) (by kernel_rfl) (by kernel_rfl) (fun _ _ _ h => h) (Or.inl ⟨by kernel_rfl, ?_⟩) hS ?_
  rotate_left
  · intro w' hS'
    have hq := hS'.1
    have hq2 := hS'.2
    clear hS'
    first | (go_simp; done) | (go_simp; with_reducible rfl)
  try simp only [Act.put, List.getElem_toArray, List.getElem_cons_zero, List.getElem_cons_succ, List.setIfInBounds_toArray, List.set_cons_zero, List.set_cons_succ]
  refine wpAnyH_take (i := 7) (v := ?_) rfl (by kernel_rfl) (by kernel_rfl) (by kernel_rfl) (fun _ _ _ h => h) (Or.inl ⟨by kernel_rfl, ?_⟩) hS ?_
  rotate_left
  · intro w' hS'
    have hq := hS'.1
    have hq2 := hS'.2
    clear hS'
    first | (go_simp; done) | (go_simp; with_reducible rfl)
  try simp only [Act.put, List.getElem_toArray, List.getElem_cons_zero, List.getElem_cons_succ, List.setIfInBounds_toArray, List.set_cons_zero, List.set_cons_succ]
  refine wpAnyH_take (i := 8) (v := ?_) rfl (by kernel_rfl) (by kernel_rfl) (by kernel_rfl) (fun _ _ _ h => h) (Or.inl ⟨by kernel_rfl, ?_⟩) hS ?_
  rotate_left
  · intro w' hS'
    have hq := hS'.1
    have hq2 := hS'.2
    clear hS'
    first | (go_simp; done) | (go_simp; with_reducible rfl)
  try simp only [Act.put, List.getElem_toArray, List.getElem_cons_zero, List.getElem_cons_succ, List.setIfInBounds_toArray, List.set_cons_zero, List.set_cons_succ]
  refine wpAnyH_take (i := 9) (v := ?_) rfl (by kernel_rfl) (by kernel_rfl) (by kernel_rfl) (fun _ _ _ h => h) (Or.inl ⟨by kernel_rfl, ?_⟩) hS ?_
  rotate_left
  · intro w' hS'
    have hq := hS'.1
    have hq2 := hS'.2
    clear hS'
    first | (go_simp; done) | (go_simp; with_reducible rfl)
  try simp only [Act.put, List.getElem_toArray, List.getElem_cons_zero, List.getElem_cons_succ, List.setIfInBounds_toArray, List.set_cons_zero, List.set_cons_succ]
  refine wpAnyH_take (i := 10) (v := ?_) rfl (by kernel_rfl) (by kernel_rfl) (by kernel_rfl) (fun _ _ _ h => h) (Or.inl ⟨by kernel_rfl, ?_⟩) hS ?_
  rotate_left
  · intro w' hS'
    have hq := hS'.1
    have hq2 := hS'.2
    clear hS'
    first | (go_simp; done) | (go_simp; with_reducible rfl)
  try simp only [Act.put, List.getElem_toArray, List.getElem_cons_zero, List.getElem_cons_succ, List.setIfInBounds_toArray, List.set_cons_zero, List.set_cons_succ]
  refine wpAnyH_take (i := 11) (v := ?_) rfl (by kernel_rfl) (by kernel_rfl) (by kernel_rfl) (fun _ _ _ h => h) (Or.inl ⟨by kernel_rfl, ?_⟩) hS ?_
  rotate_left
  · intro w' hS'
    have hq := hS'.1
    have hq2 := hS'.2
    clear hS'
    first | (go_simp; done) | (go_simp; with_reducible rfl)
  try simp only [Act.put, List.getElem_toArray, List.getElem_cons_zero, List.getElem_cons_succ, List.setIfInBounds_toArray, List.set_cons_zero, List.set_cons_succ]
  refine wpAnyH_take (i := 12) (v := ?_) rfl (by kernel_rfl) (by kernel_rfl) (by kernel_rfl) (fun _ _ _ h => h) (Or.inl ⟨by kernel_rfl, ?_⟩) hS ?_
  rotate_left
  · intro w' hS'
    have hq := hS'.1
    have hq2 := hS'.2
    clear hS'
    first | (go_simp; done) | (go_simp; with_reducible rfl)
  try simp only [Act.put, List.getElem_toArray, List.getElem_cons_zero, List.getElem_cons_succ, List.setIfInBounds_toArray, List.set_cons_zero, List.set_cons_succ]
  refine wpAnyH_take (i := 13) (v := ?_) rfl (by kernel_rfl) (by kernel_rfl) (by kernel_rfl) (fun _ _ _ h => h) (Or.inl ⟨by kernel_rfl, ?_⟩) hS ?_
  rotate_left
  · intro w' hS'
    have hq := hS'.1
    have hq2 := hS'.2
    clear hS'
    first | (go_simp; done) | (go_simp; with_reducible rfl)
  try simp only [Act.put, List.getElem_toArray, List.getElem_cons_zero, List.getElem_cons_succ, List.setIfInBounds_toArray, List.set_cons_zero, List.set_cons_succ]
  refine wpAnyH_take (i := 14) (v := ?_) rfl (by kernel_rfl) (by kernel_rfl) (by kernel_rfl) (fun _ _ _ h => h) (Or.inl ⟨by kernel_rfl, ?_⟩) hS ?_
  rotate_left
  · intro w' hS'
    have hq := hS'.1
    have hq2 := hS'.2
    clear hS'
    first | (go_simp; done) | (go_simp; with_reducible rfl)
  try simp only [Act.put, List.getElem_toArray, List.getElem_cons_zero, List.getElem_cons_succ, List.setIfInBounds_toArray, List.set_cons_zero, List.set_cons_succ]
  refine wpAnyH_take (i := 15) (v := ?_) rfl (by kernel_rfl) (by kernel_rfl) (by kernel_rfl) (fun _ _ _ h => h) (Or.inl ⟨by kernel_rfl, ?_⟩) hS ?_
  rotate_left
  · intro w' hS'
    have hq := hS'.1
    have hq2 := hS'.2
    clear hS'
    first | (go_simp; done) | (go_simp; with_reducible rfl)
  try simp only [Act.put, List.getElem_toArray, List.getElem_cons_zero, List.getElem_cons_succ, List.setIfInBounds_toArray, List.set_cons_zero, List.set_cons_succ]
  refine wpAnyH_take (i := 16) (v := ?_) rfl (by kernel_rfl) (by kernel_rfl) (by kernel_rfl) (fun _ _ _ h => h) (Or.inl ⟨by kernel_rfl, ?_⟩) hS ?_
  rotate_left
  · intro w' hS'
    have hq := hS'.1
    have hq2 := hS'.2
    clear hS'
    first | (go_simp; done) | (go_simp; with_reducible rfl)
  try simp only [Act.put, List.getElem_toArray, List.getElem_cons_zero, List.getElem_cons_succ, List.setIfInBounds_toArray, List.set_cons_zero, List.set_cons_succ]
  refine wpAnyH_take (i := 17) (v := ?_) rfl (by kernel_rfl) (by kernel_rfl) (by kernel_rfl) (fun _ _ _ h => h) (Or.inl ⟨by kernel_rfl, ?_⟩) hS ?_
  rotate_left
  · intro w' hS'
    have hq := hS'.1
    have hq2 := hS'.2
    clear hS'
    first | (go_simp; done) | (go_simp; with_reducible rfl)
  try simp only [Act.put, List.getElem_toArray, List.getElem_cons_zero, List.getElem_cons_succ, List.setIfInBounds_toArray, List.set_cons_zero, List.set_cons_succ]
  refine wpAnyH_take (i := 18) (v := ?_) rfl (by kernel_rfl) (by kernel_rfl) (by kernel_rfl) (fun _ _ _ h => h) (Or.inl ⟨by kernel_rfl, ?_⟩) hS ?_
  rotate_left
  · intro w' hS'
    have hq := hS'.1
    have hq2 := hS'.2
    clear hS'
    first | (go_simp; done) | (go_simp; with_reducible rfl)
  try simp only [Act.put, List.getElem_toArray, List.getElem_cons_zero, List.getElem_cons_succ, List.setIfInBounds_toArray, List.set_cons_zero, List.set_cons_succ]
  refine wpAnyH_take (i := 19) (v := ?_) rfl (by kernel_rfl) (by kernel_rfl) (by kernel_rfl) (fun _ _ _ h => h) (Or.inl ⟨by kernel_rfl, ?_⟩) hS ?_
  rotate_left
  · intro w' hS'
    have hq := hS'.1
    have hq2 := hS'.2
    clear hS'
    first | (go_simp; done) | (go_simp; with_reducible rfl)
  try simp only [Act.put, List.getElem_toArray, List.getElem_cons_zero, List.getElem_cons_succ, List.setIfInBounds_toArray, List.set_cons_zero, List.set_cons_succ]
  refine wpAnyH_take (i := 20) (v := ?_) rfl (by kernel_rfl) (by kernel_rfl) (by kernel_rfl) (fun _ _ _ h => h) (Or.inl ⟨by kernel_rfl, ?_⟩) hS ?_
  rotate_left
  · intro w' hS'
    have hq := hS'.1
    have hq2 := hS'.2
    clear hS'
    first | (go_simp; done) | (go_simp; with_reducible rfl)
  try simp only [Act.put, List.getElem_toArray, List.getElem_cons_zero, List.getElem_cons_succ, List.setIfInBounds_toArray, List.set_cons_zero, List.set_cons_succ]
  refine wpAnyH_take (i := 21) (v := ?_) rfl (by kernel_rfl) (by kernel_rfl) (by kernel_rfl) (fun _ _ _ h => h) (Or.inl ⟨by kernel_rfl, ?_⟩) hS ?_
  rotate_left
  · intro w' hS'
    have hq := hS'.1
    have hq2 := hS'.2
    clear hS'
    first | (go_simp; done) | (go_simp; with_reducible rfl)
  try simp only [Act.put, List.getElem_toArray, List.getElem_cons_zero, List.getElem_cons_succ, List.setIfInBounds_toArray, List.set_cons_zero, List.set_cons_succ]
  refine wpAnyH_take (i := 22) (v := ?_) rfl (by kernel_rfl) (by kernel_rfl) (by kernel_rfl) (fun _ _ _ h => h) (Or.inl ⟨by kernel_rfl, ?_⟩) hS ?_
  rotate_left
  · intro w' hS'
    have hq := hS'.1
    have hq2 := hS'.2
    clear hS'
    first | (go_simp; done) | (go_simp; with_reducible rfl)
  try simp only [Act.put, List.getElem_toArray, List.getElem_cons_zero, List.getElem_cons_succ, List.setIfInBounds_toArray, List.set_cons_zero, List.set_cons_succ]
  refine wpAnyH_take (i := 23) (v := ?_) rfl (by kernel_rfl) (by kernel_rfl) (by kernel_rfl) (fun _ _ _ h => h) (Or.inl ⟨by kernel_rfl, ?_⟩) hS ?_
  rotate_left
  · intro w' hS'
    have hq := hS'.1
    have hq2 := hS'.2
    clear hS'
    first | (go_simp; done) | (go_simp; with_reducible rfl)
  try simp only [Act.put, List.getElem_toArray, List.getElem_cons_zero, List.getElem_cons_succ, List.setIfInBounds_toArray, List.set_cons_zero, List.set_cons_succ]
  refine wpAnyH_take (i := 24) (v := ?_) rfl (by kernel_rfl) (by kernel_rfl) (by kernel_rfl) (fun _ _ _ h => h) (Or.inl ⟨by kernel_rfl, ?_⟩) hS ?_
  rotate_left
  · intro w' hS'
    have hq := hS'.1
    have hq2 := hS'.2
    clear hS'
    first | (go_simp; done) | (go_simp; with_reducible rfl)
  try simp only [Act.put, List.getElem_toArray, List.getElem_cons_zero, List.getElem_cons_succ, List.setIfInBounds_toArray, List.set_cons_zero, List.set_cons_succ]
  refine wpAnyH_take (i := 25) (v := ?_) rfl (by kernel_rfl) (by kernel_rfl) (by kernel_rfl) (fun _ _ _ h => h) (Or.inl ⟨by kernel_rfl, ?_⟩) hS ?_
  rotate_left
  · intro w' hS'
    have hq := hS'.1
    have hq2 := hS'.2
    clear hS'
    first | (go_simp; done) | (go_simp; with_reducible rfl)
  try simp only [Act.put, List.getElem_toArray, List.getElem_cons_zero, List.getElem_cons_succ, List.setIfInBounds_toArray, List.set_cons_zero, List.set_cons_succ]
  refine wpAnyH_take (i := 26) (v := ?_) rfl (by kernel_rfl) (by kernel_rfl) (by kernel_rfl) (fun _ _ _ h => h) (Or.inl ⟨by kernel_rfl, ?_⟩) hS ?_
  rotate_left
  · intro w' hS'
    have hq := hS'.1
    have hq2 := hS'.2
    clear hS'
    first | (go_simp; done) | (go_simp; with_reducible rfl)
  try simp only [Act.put, List.getElem_toArray, List.getElem_cons_zero, List.getElem_cons_succ, List.setIfInBounds_toArray, List.set_cons_zero, List.set_cons_succ]
  refine wpAnyH_take (i := 27) (v := ?_) rfl (by kernel_rfl) (by kernel_rfl) (by kernel_rfl) (fun _ _ _ h => h) (Or.inl ⟨by kernel_rfl, ?_⟩) hS ?_
  rotate_left
  · intro w' hS'
    have hq := hS'.1
    have hq2 := hS'.2
    clear hS'
    first | (go_simp; done) | (go_simp; with_reducible rfl)
  try simp only [Act.put, List.getElem_toArray, List.getElem_cons_zero, List.getElem_cons_succ, List.setIfInBounds_toArray, List.set_cons_zero, List.set_cons_succ]
  refine wpAnyH_take (i := 28) (v := ?_) rfl (by kernel_rfl) (by kernel_rfl) (by kernel_rfl) (fun _ _ _ h => h) (Or.inl ⟨by kernel_rfl, ?_⟩) hS ?_
  rotate_left
  · intro w' hS'
    have hq := hS'.1
    have hq2 := hS'.2
    clear hS'
    first | (go_simp; done) | (go_simp; with_reducible rfl)
  try simp only [Act.put, List.getElem_toArray, List.getElem_cons_zero, List.getElem_cons_succ, List.setIfInBounds_toArray, List.set_cons_zero, List.set_cons_succ]
  refine wpAnyH_take (i := 29) (v := ?_) rfl (by kernel_rfl) (by kernel_rfl) (by kernel_rfl) (fun _ _ _ h => h) (Or.inl ⟨by kernel_rfl, ?_⟩) hS ?_
  rotate_left
  · intro w' hS'
    have hq := hS'.1
    have hq2 := hS'.2
    clear hS'
    first | (go_simp; done) | (go_simp; with_reducible rfl)
  try simp only [Act.put, List.getElem_toArray, List.getElem_cons_zero, List.getElem_cons_succ, List.setIfInBounds_toArray, List.set_cons_zero, List.set_cons_succ]
  refine wpAnyH_take (i := 30) (v := ?_) rfl (by kernel_rfl) (by kernel_rfl) (by kernel_rfl) (fun _ _ _ h => h) (Or.inl ⟨by kernel_rfl, ?_⟩) hS ?_
  rotate_left
  · intro w' hS'
    have hq := hS'.1
    have hq2 := hS'.2
    clear hS'
    first | (go_simp; done) | (go_simp; with_reducible rfl)
  try simp only [Act.put, List.getElem_toArray, List.getElem_cons_zero, List.getElem_cons_succ, List.setIfInBounds_toArray, List.set_cons_zero, List.set_cons_succ]
  refine wpAnyH_take (i := 31) (v := ?_) rfl (by kernel_rfl) (by kernel_rfl) (by kernel_rfl) (fun _ _ _ h => h) (Or.inl ⟨by kernel_rfl, ?_⟩) hS ?_
  rotate_left
  · intro w' hS'
    have hq := hS'.1
    have hq2 := hS'.2
    clear hS'
    first | (go_simp; done) | (go_simp; with_reducible rfl)
  try simp only [Act.put, List.getElem_toArray, List.getElem_cons_zero, List.getElem_cons_succ, List.setIfInBounds_toArray, List.set_cons_zero, List.set_cons_succ]
  refine wpAnyH_take (i := 32) (v := ?_) rfl (by kernel_rfl) (by kernel_rfl) (by kernel_rfl) (fun _ _ _ h => h) (Or.inl ⟨by kernel_rfl, ?_⟩) hS ?_
  rotate_left
  · intro w' hS'
    have hq := hS'.1
    have hq2 := hS'.2
    clear hS'
    first | (go_simp; done) | (go_simp; with_reducible rfl)
  try simp only [Act.put, List.getElem_toArray, List.getElem_cons_zero, List.getElem_cons_succ, List.setIfInBounds_toArray, List.set_cons_zero, List.set_cons_succ]
  refine wpAnyH_take (i := 33) (v := ?_) rfl (by kernel_rfl) (by kernel_rfl) (by kernel_rfl) (fun _ _ _ h => h) (Or.inl ⟨by kernel_rfl, ?_⟩) hS ?_
  rotate_left
  · intro w' hS'
    have hq := hS'.1
    have hq2 := hS'.2
    clear hS'
    first | (go_simp; done) | (go_simp; with_reducible rfl)
  try simp only [Act.put, List.getElem_toArray, List.getElem_cons_zero, List.getElem_cons_succ, List.setIfInBounds_toArray, List.set_cons_zero, List.set_cons_succ]
  refine wpAnyH_take (i := 34) (v := ?_) rfl (by kernel_rfl) (by kernel_rfl) (by kernel_rfl) (fun _ _ _ h => h) (Or.inl ⟨by kernel_rfl, ?_⟩) hS ?_
  rotate_left
  · intro w' hS'
    have hq := hS'.1
    have hq2 := hS'.2
    clear hS'
    first | (go_simp; done) | (go_simp; with_reducible rfl)
  try simp only [Act.put, List.getElem_toArray, List.getElem_cons_zero, List.getElem_cons_succ, List.setIfInBounds_toArray, List.set_cons_zero, List.set_cons_succ]
  refine wpAnyH_take (i := 35) (v := ?_) rfl (by kernel_rfl) (by kernel_rfl) (by kernel_rfl) (fun _ _ _ h => h) (Or.inl ⟨by kernel_rfl, ?_⟩) hS ?_
  rotate_left
  · intro w' hS'
    have hq := hS'.1
    have hq2 := hS'.2
    clear hS'
    first | (go_simp; done) | (go_simp; with_reducible rfl)
  try simp only [Act.put, List.getElem_toArray, List.getElem_cons_zero, List.getElem_cons_succ, List.setIfInBounds_toArray, List.set_cons_zero, List.set_cons_succ]
  refine wpAnyH_take (i := 36) (v := ?_) rfl (by kernel_rfl) (by kernel_rfl) (by kernel_rfl) (fun _ _ _ h => h) (Or.inl ⟨by kernel_rfl, ?_⟩) hS ?_
  rotate_left
  · intro w' hS'
    have hq := hS'.1
    have hq2 := hS'.2
    clear hS'
    first | (go_simp; done) | (go_simp; with_reducible rfl)
  try simp only [Act.put, List.getElem_toArray, List.getElem_cons_zero, List.getElem_cons_succ, List.setIfInBounds_toArray, List.set_cons_zero, List.set_cons_succ]
  refine wpAnyH_take (i := 37) (v := ?_) rfl (by kernel_rfl) (by kernel_rfl) (by kernel_rfl) (fun _ _ _ h => h) (Or.inl ⟨by kernel_rfl, ?_⟩) hS ?_
  rotate_left
  · intro w' hS'
    have hq := hS'.1
    have hq2 := hS'.2
    clear hS'
    first | (go_simp; done) | (go_simp; with_reducible rfl)
  try simp only [Act.put, List.getElem_toArray, List.getElem_cons_zero, List.getElem_cons_succ, List.setIfInBounds_toArray, List.set_cons_zero, List.set_cons_succ]
  refine wpAnyH_take (i := 38) (v := ?_) rfl (by kernel_rfl) (by kernel_rfl) (by kernel_rfl) (fun _ _ _ h => h) (Or.inl ⟨by kernel_rfl, ?_⟩) hS ?_
  rotate_left
  · intro w' hS'
    have hq := hS'.1
    have hq2 := hS'.2
    clear hS'
    first | (go_simp; done) | (go_simp; with_reducible rfl)
  try simp only [Act.put, List.getElem_toArray, List.getElem_cons_zero, List.getElem_cons_succ, List.setIfInBounds_toArray, List.set_cons_zero, List.set_cons_succ]
  refine wpAnyH_take (i := 39) (v := ?_) rfl (by kernel_rfl) (by kernel_rfl) (by kernel_rfl) (fun _ _ _ h => h) (Or.inl ⟨by kernel_rfl, ?_⟩) hS ?_
  rotate_left
  · intro w' hS'
    have hq := hS'.1
    have hq2 := hS'.2
    clear hS'
    first | (go_simp; done) | (go_simp; with_reducible rfl)
  try simp only [Act.put, List.getElem_toArray, List.getElem_cons_zero, List.getElem_cons_succ, List.setIfInBounds_toArray, List.set_cons_zero, List.set_cons_succ]
  refine wpAnyH_take (i := 40) (v := ?_) rfl (by kernel_rfl) (by kernel_rfl) (by kernel_rfl) (fun _ _ _ h => h) (Or.inl ⟨by kernel_rfl, ?_⟩) hS ?_
  rotate_left
  · intro w' hS'
    have hq := hS'.1
    have hq2 := hS'.2
    clear hS'
    first | (go_simp; done) | (go_simp; with_reducible rfl)
  try simp only [Act.put, List.getElem_toArray, List.getElem_cons_zero, List.getElem_cons_succ, List.setIfInBounds_toArray, List.set_cons_zero, List.set_cons_succ]
  refine wpAnyH_take (i := 41) (v := ?_) rfl (by kernel_rfl) (by kernel_rfl) (by kernel_rfl) (fun _ _ _ h => h) (Or.inl ⟨by kernel_rfl, ?_⟩) hS ?_
  rotate_left
  · intro w' hS'
    have hq := hS'.1
    have hq2 := hS'.2
    clear hS'
    first | (go_simp; done) | (go_simp; with_reducible rfl)
  try simp only [Act.put, List.getElem_toArray, List.getElem_cons_zero, List.getElem_cons_succ, List.setIfInBounds_toArray, List.set_cons_zero, List.set_cons_succ]
  refine wpAnyH_take (i := 42) (v := ?_) rfl (by kernel_rfl) (by kernel_rfl) (by kernel_rfl) (fun _ _ _ h => h) (Or.inl ⟨by kernel_rfl, ?_⟩) hS ?_
  rotate_left
  · intro w' hS'
    have hq := hS'.1
    have hq2 := hS'.2
    clear hS'
    first | (go_simp; done) | (go_simp; with_reducible rfl)
  try simp only [Act.put, List.getElem_toArray, List.getElem_cons_zero, List.getElem_cons_succ, List.setIfInBounds_toArray, List.set_cons_zero, List.set_cons_succ]
  refine wpAnyH_take (i := 43) (v := ?_) rfl (by kernel_rfl) (by kernel_rfl) (by kernel_rfl) (fun _ _ _ h => h) (Or.inl ⟨by kernel_rfl, ?_⟩) hS ?_
  rotate_left
  · intro w' hS'
    have hq := hS'.1
    have hq2 := hS'.2
    clear hS'
    first | (go_simp; done) | (go_simp; with_reducible rfl)
  try simp only [Act.put, List.getElem_toArray, List.getElem_cons_zero, List.getElem_cons_succ, List.setIfInBounds_toArray, List.set_cons_zero, List.set_cons_succ]
  refine wpAnyH_take (i := 44) (v := ?_) rfl (by kernel_rfl) (by kernel_rfl) (by kernel_rfl) (fun _ _ _ h => h) (Or.inl ⟨by kernel_rfl, ?_⟩) hS ?_
  rotate_left
  · intro w' hS'
    have hq := hS'.1
    have hq2 := hS'.2
    clear hS'
    first | (go_simp; done) | (go_simp; with_reducible rfl)
  try simp only [Act.put, List.getElem_toArray, List.getElem_cons_zero, List.getElem_cons_succ, List.setIfInBounds_toArray, List.set_cons_zero, List.set_cons_succ]
  refine wpAnyH_take (i := 45) (v := ?_) rfl (by kernel_rfl) (by kernel_rfl) (by kernel_rfl) (fun _ _ _ h => h) (Or.inl ⟨by kernel_rfl, ?_⟩) hS ?_
  rotate_left
  · intro w' hS'
    have hq := hS'.1
    have hq2 := hS'.2
    clear hS'
    first | (go_simp; done) | (go_simp; with_reducible rfl)
  try simp only [Act.put, List.getElem_toArray, List.getElem_cons_zero, List.getElem_cons_succ, List.setIfInBounds_toArray, List.set_cons_zero, List.set_cons_succ]
  refine wpAnyH_take (i := 46) (v := ?_) rfl (by kernel_rfl) (by kernel_rfl) (by kernel_rfl) (fun _ _ _ h => h) (Or.inl ⟨by kernel_rfl, ?_⟩) hS ?_
  rotate_left
  · intro w' hS'
    have hq := hS'.1
    have hq2 := hS'.2
    clear hS'
    first | (go_simp; done) | (go_simp; with_reducible rfl)
  try simp only [Act.put, List.getElem_toArray, List.getElem_cons_zero, List.getElem_cons_succ, List.setIfInBounds_toArray, List.set_cons_zero, List.set_cons_succ]
  refine wpAnyH_take (i := 47) (v := ?_) rfl (by kernel_rfl) (by kernel_rfl) (by kernel_rfl) (fun _ _ _ h => h) (Or.inl ⟨by kernel_rfl, ?_⟩) hS ?_
  rotate_left
  · intro w' hS'
    have hq := hS'.1
    have hq2 := hS'.2
    clear hS'
    first | (go_simp; done) | (go_simp; with_reducible rfl)
  try simp only [Act.put, List.getElem_toArray, List.getElem_cons_zero, List.getElem_cons_succ, List.setIfInBounds_toArray, List.set_cons_zero, List.set_cons_succ]
  refine wpAnyH_take (i := 48) (v := ?_) rfl (by kernel_rfl) (by kernel_rfl) (by kernel_rfl) (fun _ _ _ h => h) (Or.inl ⟨by kernel_rfl, ?_⟩) hS ?_
  rotate_left
  · intro w' hS'
    have hq := hS'.1
    have hq2 := hS'.2
    clear hS'
    first | (go_simp; done) | (go_simp; with_reducible rfl)
  try simp only [Act.put, List.getElem_toArray, List.getElem_cons_zero, List.getElem_cons_succ, List.setIfInBounds_toArray, List.set_cons_zero, List.set_cons_succ]
  refine wpAnyH_take (i := 49) (v := ?_) rfl (by kernel_rfl) (by kernel_rfl) (by kernel_rfl) (fun _ _ _ h => h) (Or.inl ⟨by kernel_rfl, ?_⟩) hS ?_
  rotate_left
  · intro w' hS'
    have hq := hS'.1
    have hq2 := hS'.2
    clear hS'
    first | (go_simp; done) | (go_simp; with_reducible rfl)
  try simp only [Act.put, List.getElem_toArray, List.getElem_cons_zero, List.getElem_cons_succ, List.setIfInBounds_toArray, List.set_cons_zero, List.set_cons_succ]
  refine wpAnyH_take (i := 50) (v := ?_) rfl (by kernel_rfl) (by kernel_rfl) (by kernel_rfl) (fun _ _ _ h => h) (Or.inl ⟨by kernel_rfl, ?_⟩) hS ?_
  rotate_left
  · intro w' hS'
    have hq := hS'.1
    have hq2 := hS'.2
    clear hS'
    first | (go_simp; done) | (go_simp; with_reducible rfl)
  try simp only [Act.put, List.getElem_toArray, List.getElem_cons_zero, List.getElem_cons_succ, List.setIfInBounds_toArray, List.set_cons_zero, List.set_cons_succ]
  refine wpAnyH_take (i := 51) (v := ?_) rfl (by kernel_rfl) (by kernel_rfl) (by kernel_rfl) (fun _ _ _ h => h) (Or.inl ⟨by kernel_rfl, ?_⟩) hS ?_
  rotate_left
  · intro w' hS'
    have hq := hS'.1
    have hq2 := hS'.2
    clear hS'
    first | (go_simp; done) | (go_simp; with_reducible rfl)
  try simp only [Act.put, List.getElem_toArray, List.getElem_cons_zero, List.getElem_cons_succ, List.setIfInBounds_toArray, List.set_cons_zero, List.set_cons_succ]
  refine wpAnyH_take (i := 52) (v := ?_) rfl (by kernel_rfl) (by kernel_rfl) (by kernel_rfl) (fun _ _ _ h => h) (Or.inl ⟨by kernel_rfl, ?_⟩) hS ?_
  rotate_left
  · intro w' hS'
    have hq := hS'.1
    have hq2 := hS'.2
    clear hS'
    first | (go_simp; done) | (go_simp; with_reducible rfl)
  try simp only [Act.put, List.getElem_toArray, List.getElem_cons_zero, List.getElem_cons_succ, List.setIfInBounds_toArray, List.set_cons_zero, List.set_cons_succ]
  refine wpAnyH_take (i := 53) (v := ?_) rfl (by kernel_rfl) (by kernel_rfl) (by kernel_rfl) (fun _ _ _ h => h) (Or.inl ⟨by kernel_rfl, ?_⟩) hS ?_
  rotate_left
  · intro w' hS'
    have hq := hS'.1
    have hq2 := hS'.2
    clear hS'
    first | (go_simp; done) | (go_simp; with_reducible rfl)
  try simp only [Act.put, List.getElem_toArray, List.getElem_cons_zero, List.getElem_cons_succ, List.setIfInBounds_toArray, List.set_cons_zero, List.set_cons_succ]
  refine wpAnyH_take (i := 54) (v := ?_) rfl (by kernel_rfl) (by kernel_rfl) (by kernel_rfl) (fun _ _ _ h => h) (Or.inl ⟨by kernel_rfl, ?_⟩) hS ?_
  rotate_left
  · intro w' hS'
    have hq := hS'.1
    have hq2 := hS'.2
    clear hS'
    first | (go_simp; done) | (go_simp; with_reducible rfl)
  try simp only [Act.put, List.getElem_toArray, List.getElem_cons_zero, List.getElem_cons_succ, List.setIfInBounds_toArray, List.set_cons_zero, List.set_cons_succ]
  refine wpAnyH_ready (rs := [55]) (by kernel_rfl) (by simp) ?_
  refine AllReadyH.cons rfl (fun K hK => ?_) AllReadyH.nil
  go_simp
  go_at_call 14
  refine (lives_any _ (hT5.kept hS.2)).mono ?_
  rintro e w15 ⟨rfl, hk⟩
  try dsimp only
  have k15 : Below W5.heap.size W5 w15 := hS.2.trans (hk.mono hS.2.size)
  refine hK.out _ _ ?_ (fun hS => ?_)
  · exact ⟨(bcell k15).1, k15⟩
  clear hK K
  try simp only [Act.put, List.getElem_toArray, List.getElem_cons_zero, List.getElem_cons_succ, List.setIfInBounds_toArray, List.set_cons_zero, List.set_cons_succ]
  refine wpAnyH_take (i := 56) (v := ?_) rfl (by kernel_rfl) (by kernel_rfl) (by kernel_rfl) (fun _ _ _ h => h) (Or.inl ⟨by kernel_rfl, ?_⟩) hS ?_
  rotate_left
  · intro w' hS'
    have hq := hS'.1
    have hq2 := hS'.2
    clear hS'
    first | (go_simp; done) | (go_simp; with_reducible rfl)
  try simp only [Act.put, List.getElem_toArray, List.getElem_cons_zero, List.getElem_cons_succ, List.setIfInBounds_toArray, List.set_cons_zero, List.set_cons_succ]
  refine wpAnyH_take (i := 57) (v := ?_) rfl (by kernel_rfl) (by kernel_rfl) (by kernel_rfl) (fun _ _ _ h => h) (Or.inl ⟨by kernel_rfl, ?_⟩) hS ?_
  rotate_left
  · intro w' hS'
    have hq := hS'.1
    have hq2 := hS'.2
    clear hS'
    first | (go_simp; done) | (go_simp; with_reducible rfl)
  try simp only [Act.put, List.getElem_toArray, List.getElem_cons_zero, List.getElem_cons_succ, List.setIfInBounds_toArray, List.set_cons_zero, List.set_cons_succ]
  refine wpAnyH_done (by kernel_rfl) ?_ _
  go_wp2_with fail
  go_ret
  exact ⟨rfl, hkW.trans ((hk5.trans (k15.mono hk5.size)).mono hkW.size)⟩
end Go.Proofs.YtfojemocffelhaaDoor
/- CommandsInquiry: the bytes. -/
namespace Go.Proofs.YtfojemocffelhaaDoor
open Go.RowKit Go.Shelf
attribute [local go_sem ↓] Go.wp_at_zero Go.wp_at_succ

noncomputable def codeB : Code := (Tryd.f7.body.bind (fromR 15)).getD .skip
set_option maxRecDepth 1000000 in
set_option maxHeartbeats 8000000 in
theorem inqB1 {u0 u2 u3 u4 u6 u7 u8 u9 u10 u11 u12 u13 u14 u15 u16 u17 u18 u19 u20 u21 u22 u23 u24 u25 u26 u27 u28 u29 u30 u31 u32 u33 u34 u35 u36 u37 u38 u39 u40 u41 u42 u43 u44 u45 u46 u47 u48 u49 u50 u51 u52 u53 u54 u55 u56 u57 u58 u59 u60 u61 u62 u63 u64 u65 u66 u67 u68 u69 u70 u71 u72 u73 u74 u75 u76 u77 u78 u79 u80 u81 u82 u83 u84 u85 u86 u87 u88 u89 u90 u91 u92 u93 u94 u95 u96 u97 u98 u99 u100 u101 u102 u103 u104 u105 u106 u107 u108 u109 u110 u111 u112 u113 u114 u115 u116 u117 u118 u119 u120 u121 u122 u123 u124 u125 u126 u127 u128 u129 u130 u131 u132 u133 u134 u135 u136 u137 u138 u139 u140 u141 u142 u143 u144 u145 u146 u147 u148 u149 u150 u151 u152 u153 u154 u155 u156 u157 u158 u159 u160 u161 u162 u163 u164 u165 u166 u167 u168 u169 u170 u171 u172 u173 u174 u175 u176 u177 u178 u179 u180 u181 u182 u183 u184 u185 u186 u187 u188 u189 u190 u191 u192 u193 u194 u195 u196 u197 u198 u199 u200 u201 u202 u203 u204 u205 u206 u207 u208 u209 u210 u211 u212 u213 u214 u215 u216 u217 u218 u219 u220 u221 u222 u223 u224 u225 u226 u227 u228 u229 u230 u231 u232 u233 u234 u235 u236 u237 u238 u239 u240 u241 u242 u243 u244 u245 u246 u247 u248 u249 u250 u251 u252 u253 u254 u255 u256 u257 u258 u259 u260 u261 u262 u263 u264 u265 u266 u267 u268 u269 u270 u271 u272 u273 u274 u275 u276 u277 u278 u279 u280 u281 u282 u283 u284 u285 u286 u287 u288 u289 u290 u291 u292 u293 u294 u295 u296 u297 u298 u299 u300 u301 u302 u303 u304 u305 u306 u307 u308 u309 u310 u311 u312 u313 u314 u315 u316 u317 u318 u319 u320 u321 u322 u323 u324 : Value} (A : Option Addr) (n c : Nat) (Y y z : Nat) (w W : World) (hT : Tabs W) (hy : y < 4294967296) (hz : z < 4294967296) (hby : W.heap[Y]? = some (.cells #[.int .u32 y, .int .u32 z] 57 (0, 0))) (hkW : Kept w W) (hn : n < 36)
    (K : Act → World → Prop) (hK : ∀ a w', Code.wp Tryd.prog (restC codeB) (bodyPost Tryd.prog Tryd.f7 fun e w' => e = .returned (.bool true) ∧ Kept w w') a w' → K a w') :
    Code.wp Tryd.prog (headC codeB) (Exit.then K (bodyPost Tryd.prog Tryd.f7 fun e w' => e = .returned (.bool true) ∧ Kept w w')) ⟨#[u0, .slice A n c, u2, u3, u4, .pointer (some ⟨Y, 0, none⟩), u6, u7, u8, u9, u10, u11, u12, u13, u14, u15, u16, u17, u18, u19, u20, u21, u22, u23, u24, u25, u26, u27, u28, u29, u30, u31, u32, u33, u34, u35, u36, u37, u38, u39, u40, u41, u42, u43, u44, u45, u46, u47, u48, u49, u50, u51, u52, u53, u54, u55, u56, u57, u58, u59, u60, u61, u62, u63, u64, u65, u66, u67, u68, u69, u70, u71, u72, u73, u74, u75, u76, u77, u78, u79, u80, u81, u82, u83, u84, u85, u86, u87, u88, u89, u90, u91, u92, u93, u94, u95, u96, u97, u98, u99, u100, u101, u102, u103, u104, u105, u106, u107, u108, u109, u110, u111, u112, u113, u114, u115, u116, u117, u118, u119, u120, u121, u122, u123, u124, u125, u126, u127, u128, u129, u130, u131, u132, u133, u134, u135, u136, u137, u138, u139, u140, u141, u142, u143, u144, u145, u146, u147, u148, u149, u150, u151, u152, u153, u154, u155, u156, u157, u158, u159, u160, u161, u162, u163, u164, u165, u166, u167, u168, u169, u170, u171, u172, u173, u174, u175, u176, u177, u178, u179, u180, u181, u182, u183, u184, u185, u186, u187, u188, u189, u190, u191, u192, u193, u194, u195, u196, u197, u198, u199, u200, u201, u202, u203, u204, u205, u206, u207, u208, u209, u210, u211, u212, u213, u214, u215, u216, u217, u218, u219, u220, u221, u222, u223, u224, u225, u226, u227, u228, u229, u230, u231, u232, u233, u234, u235, u236, u237, u238, u239, u240, u241, u242, u243, u244, u245, u246, u247, u248, u249, u250, u251, u252, u253, u254, u255, u256, u257, u258, u259, u260, u261, u262, u263, u264, u265, u266, u267, u268, u269, u270, u271, u272, u273, u274, u275, u276, u277, u278, u279, u280, u281, u282, u283, u284, u285, u286, u287, u288, u289, u290, u291, u292, u293, u294, u295, u296, u297, u298, u299, u300, u301, u302, u303, u304, u305, u306, u307, u308, u309, u310, u311, u312, u313, u314, u315, u316, u317, u318, u319, u320, u321, u322, u323, u324], []⟩ W := by
  conv => arg 2; whnf
  conv at hK => enter [a, w', 1, 2]; whnf
  have hnI : (n : Int) < 36 := by omega
  go_upto_region 26 with (go_at_call 23; refine (dinq_short A n c _ hn).mono ?_; rintro e w1 ⟨rfl, hk1⟩)
  refine inqC Y y z w _ (hT.kept (hk1.trans ((Below.refl _ _).alloc hk1.size _))) hy hz (heap_past (heap_kept hk1 hby)) ((hkW.trans (hk1.mono hkW.size)).trans ((Below.refl _ _).alloc (Nat.le_trans hkW.size hk1.size) _)) _ ?_
  assumption
set_option maxRecDepth 1000000 in
set_option maxHeartbeats 8000000 in
theorem inqB2 {u0 u2 u3 u4 u6 u7 u8 u9 u10 u11 u12 u13 u14 u15 u16 u17 u18 u19 u20 u21 u22 u23 u24 u25 u26 u27 u28 u29 u30 u31 u32 u33 u34 u35 u36 u37 u38 u39 u40 u41 u42 u43 u44 u45 u46 u47 u48 u49 u50 u51 u52 u53 u54 u55 u56 u57 u58 u59 u60 u61 u62 u63 u64 u65 u66 u67 u68 u69 u70 u71 u72 u73 u74 u75 u76 u77 u78 u79 u80 u81 u82 u83 u84 u85 u86 u87 u88 u89 u90 u91 u92 u93 u94 u95 u96 u97 u98 u99 u100 u101 u102 u103 u104 u105 u106 u107 u108 u109 u110 u111 u112 u113 u114 u115 u116 u117 u118 u119 u120 u121 u122 u123 u124 u125 u126 u127 u128 u129 u130 u131 u132 u133 u134 u135 u136 u137 u138 u139 u140 u141 u142 u143 u144 u145 u146 u147 u148 u149 u150 u151 u152 u153 u154 u155 u156 u157 u158 u159 u160 u161 u162 u163 u164 u165 u166 u167 u168 u169 u170 u171 u172 u173 u174 u175 u176 u177 u178 u179 u180 u181 u182 u183 u184 u185 u186 u187 u188 u189 u190 u191 u192 u193 u194 u195 u196 u197 u198 u199 u200 u201 u202 u203 u204 u205 u206 u207 u208 u209 u210 u211 u212 u213 u214 u215 u216 u217 u218 u219 u220 u221 u222 u223 u224 u225 u226 u227 u228 u229 u230 u231 u232 u233 u234 u235 u236 u237 u238 u239 u240 u241 u242 u243 u244 u245 u246 u247 u248 u249 u250 u251 u252 u253 u254 u255 u256 u257 u258 u259 u260 u261 u262 u263 u264 u265 u266 u267 u268 u269 u270 u271 u272 u273 u274 u275 u276 u277 u278 u279 u280 u281 u282 u283 u284 u285 u286 u287 u288 u289 u290 u291 u292 u293 u294 u295 u296 u297 u298 u299 u300 u301 u302 u303 u304 u305 u306 u307 u308 u309 u310 u311 u312 u313 u314 u315 u316 u317 u318 u319 u320 u321 u322 u323 u324 : Value} (b off : Nat) (n c : Nat) (v0 : Int) (Y y z : Nat) (w W : World) (hT : Tabs W) (hy : y < 4294967296) (hz : z < 4294967296) (hby : W.heap[Y]? = some (.cells #[.int .u32 y, .int .u32 z] 57 (0, 0))) (hkW : Kept w W) (hn : 36 ≤ n)
    (hb : b < W.heap.size) (h0 : W.cell? ⟨b, off, none⟩ = some (.int .u8 v0)) (hv0 : v0 ≠ 0)
    (K : Act → World → Prop) (hK : ∀ a w', Code.wp Tryd.prog (restC codeB) (bodyPost Tryd.prog Tryd.f7 fun e w' => e = .returned (.bool true) ∧ Kept w w') a w' → K a w') :
    Code.wp Tryd.prog (headC codeB) (Exit.then K (bodyPost Tryd.prog Tryd.f7 fun e w' => e = .returned (.bool true) ∧ Kept w w')) ⟨#[u0, .slice (some ⟨b, off, none⟩) n c, u2, u3, u4, .pointer (some ⟨Y, 0, none⟩), u6, u7, u8, u9, u10, u11, u12, u13, u14, u15, u16, u17, u18, u19, u20, u21, u22, u23, u24, u25, u26, u27, u28, u29, u30, u31, u32, u33, u34, u35, u36, u37, u38, u39, u40, u41, u42, u43, u44, u45, u46, u47, u48, u49, u50, u51, u52, u53, u54, u55, u56, u57, u58, u59, u60, u61, u62, u63, u64, u65, u66, u67, u68, u69, u70, u71, u72, u73, u74, u75, u76, u77, u78, u79, u80, u81, u82, u83, u84, u85, u86, u87, u88, u89, u90, u91, u92, u93, u94, u95, u96, u97, u98, u99, u100, u101, u102, u103, u104, u105, u106, u107, u108, u109, u110, u111, u112, u113, u114, u115, u116, u117, u118, u119, u120, u121, u122, u123, u124, u125, u126, u127, u128, u129, u130, u131, u132, u133, u134, u135, u136, u137, u138, u139, u140, u141, u142, u143, u144, u145, u146, u147, u148, u149, u150, u151, u152, u153, u154, u155, u156, u157, u158, u159, u160, u161, u162, u163, u164, u165, u166, u167, u168, u169, u170, u171, u172, u173, u174, u175, u176, u177, u178, u179, u180, u181, u182, u183, u184, u185, u186, u187, u188, u189, u190, u191, u192, u193, u194, u195, u196, u197, u198, u199, u200, u201, u202, u203, u204, u205, u206, u207, u208, u209, u210, u211, u212, u213, u214, u215, u216, u217, u218, u219, u220, u221, u222, u223, u224, u225, u226, u227, u228, u229, u230, u231, u232, u233, u234, u235, u236, u237, u238, u239, u240, u241, u242, u243, u244, u245, u246, u247, u248, u249, u250, u251, u252, u253, u254, u255, u256, u257, u258, u259, u260, u261, u262, u263, u264, u265, u266, u267, u268, u269, u270, u271, u272, u273, u274, u275, u276, u277, u278, u279, u280, u281, u282, u283, u284, u285, u286, u287, u288, u289, u290, u291, u292, u293, u294, u295, u296, u297, u298, u299, u300, u301, u302, u303, u304, u305, u306, u307, u308, u309, u310, u311, u312, u313, u314, u315, u316, u317, u318, u319, u320, u321, u322, u323, u324], []⟩ W := by
  conv => arg 2; whnf
  conv at hK => enter [a, w', 1, 2]; whnf
  have hnI : (36 : Int) ≤ (n : Int) := by omega
  have hnP : (0 : Int) < (n : Int) := by omega
  have hv0' : (v0 != 0) = true := by simpa using hv0
  go_upto_region 19 with (go_at_call 23; refine (dinq_zero b off n c v0 _ hn hb h0 hv0).mono ?_; rintro e w1 ⟨rfl, hk1⟩)
  refine wp_at (fun WE => WE.heap[Y]? = some (.cells #[.int .u32 y, .int .u32 z] 57 (0, 0)) ∧ WE.heap[w1.heap.size]? = some (.cells #[.string ⟨#[]⟩, .string ⟨#[]⟩, .string ⟨#[]⟩, .bool false] 55 (0, 0)) ∧ WE.cell? ⟨b, off, none⟩ = some (.int .u8 v0) ∧ Kept W WE)
    ⟨heap_past (heap_kept hk1 hby), heap_at _ rfl, ?_, hk1.trans ((Below.refl _ _).alloc hk1.size _)⟩ (fun WE hWE => ?_)
  · exact ((hk1.trans ((Below.refl _ _).alloc hk1.size _)).cell (p := ⟨b, off, none⟩) hb).trans h0
  obtain ⟨hbyE, hgE, h0E, hkE⟩ := hWE
  obtain ⟨G, hG⟩ : ∃ G, w1.heap.size = G := ⟨_, rfl⟩
  rw [hG] at hgE ⊢
  have cg0 := cell_heap (o := 0) hgE rfl
  have cg1 := cell_heap (o := 1) hgE rfl
  have cg2 := cell_heap (o := 2) hgE rfl
  have cg3 := cell_heap (o := 3) hgE rfl
  have lG := heap_lt hgE
  have lb := Nat.lt_of_lt_of_le hb hkE.size
  clear hG hk1 hgE w1 h0 hb hby
  replace hbyE := Lib.hid hbyE
  go_wp2_with fail
  go_loopg [14, 15] 28 (fun g s14 s15 wr => ∃ k : Nat, k + g = 28 ∧ s15 = .int .i64 (8 + (k : Int)) ∧ s14 = .bool true ∧ wr = WE)
  case atStart => exact ⟨0, by omega, by rfl, by rfl, rfl⟩
  case round =>
    obtain ⟨k, hk, rfl, rfl, rfl⟩ := hrel
    by_cases hlt : k < 28
    · have hlt' : 8 + (k : Int) < 36 := by omega
      go_wp2_with fail
      go_roundg (gk - 1)
      case measure => omega
      case rel => exact ⟨k + 1, by omega, by go_num, by rfl, rfl⟩
    · have hlt' : 36 ≤ 8 + (k : Int) := by omega
      go_wp2_with fail
      go_quiet (fail)
      have hkQ : Kept wr (wr.drewN nq) := below_drewN (Below.refl _ _) nq
      have hkF := hkE.trans (hkQ.mono hkE.size)
      have hbyF := heap_kept hkQ hbyE.out
      go_upto_region 26 with fail
      refine inqC Y y z w _ (hT.kept hkF) hy hz hbyF (hkW.trans (hkF.mono hkW.size)) _ ?_
      assumption
theorem take_ok {l : List UInt8} {k : Nat} {x : UInt8} (h : l[k]? = some x) : prL (l.take (k + 1)) = (prL (l.take k) && okb x) := by
  obtain ⟨hk, e⟩ := List.getElem?_eq_some_iff.1 h
  rw [List.take_succ_eq_append_getElem hk, e]
  unfold prL
  rw [List.all_append]
  simp
end Go.Proofs.YtfojemocffelhaaDoor
/- CommandsInquiry: the bytes. -/
namespace Go.Proofs.YtfojemocffelhaaDoor
open Go.RowKit Go.Shelf
attribute [local go_sem ↓] Go.wp_at_zero Go.wp_at_succ

set_option maxRecDepth 1000000 in
set_option maxHeartbeats 8000000 in
theorem inqB3 {u0 u2 u3 u4 u6 u7 u8 u9 u10 u11 u12 u13 u14 u15 u16 u17 u18 u19 u20 u21 u22 u23 u24 u25 u26 u27 u28 u29 u30 u31 u32 u33 u34 u35 u36 u37 u38 u39 u40 u41 u42 u43 u44 u45 u46 u47 u48 u49 u50 u51 u52 u53 u54 u55 u56 u57 u58 u59 u60 u61 u62 u63 u64 u65 u66 u67 u68 u69 u70 u71 u72 u73 u74 u75 u76 u77 u78 u79 u80 u81 u82 u83 u84 u85 u86 u87 u88 u89 u90 u91 u92 u93 u94 u95 u96 u97 u98 u99 u100 u101 u102 u103 u104 u105 u106 u107 u108 u109 u110 u111 u112 u113 u114 u115 u116 u117 u118 u119 u120 u121 u122 u123 u124 u125 u126 u127 u128 u129 u130 u131 u132 u133 u134 u135 u136 u137 u138 u139 u140 u141 u142 u143 u144 u145 u146 u147 u148 u149 u150 u151 u152 u153 u154 u155 u156 u157 u158 u159 u160 u161 u162 u163 u164 u165 u166 u167 u168 u169 u170 u171 u172 u173 u174 u175 u176 u177 u178 u179 u180 u181 u182 u183 u184 u185 u186 u187 u188 u189 u190 u191 u192 u193 u194 u195 u196 u197 u198 u199 u200 u201 u202 u203 u204 u205 u206 u207 u208 u209 u210 u211 u212 u213 u214 u215 u216 u217 u218 u219 u220 u221 u222 u223 u224 u225 u226 u227 u228 u229 u230 u231 u232 u233 u234 u235 u236 u237 u238 u239 u240 u241 u242 u243 u244 u245 u246 u247 u248 u249 u250 u251 u252 u253 u254 u255 u256 u257 u258 u259 u260 u261 u262 u263 u264 u265 u266 u267 u268 u269 u270 u271 u272 u273 u274 u275 u276 u277 u278 u279 u280 u281 u282 u283 u284 u285 u286 u287 u288 u289 u290 u291 u292 u293 u294 u295 u296 u297 u298 u299 u300 u301 u302 u303 u304 u305 u306 u307 u308 u309 u310 u311 u312 u313 u314 u315 u316 u317 u318 u319 u320 u321 u322 u323 u324 : Value} (b off : Nat) (n c : Nat) (bs : List UInt8) (Y y z : Nat) (w W : World) (hT : Tabs W) (hy : y < 4294967296) (hz : z < 4294967296) (hby : W.heap[Y]? = some (.cells #[.int .u32 y, .int .u32 z] 57 (0, 0))) (hkW : Kept w W) (hn : 36 ≤ n) (hnc : n ≤ c)
    (hl : bs.length = n) (hB : Bs W b off bs) (hx0 : bs[0]? = some 0) (hpr : prL ((bs.drop 8).take 28) = false) 
    (K : Act → World → Prop) (hK : ∀ a w', Code.wp Tryd.prog (restC codeB) (bodyPost Tryd.prog Tryd.f7 fun e w' => e = .returned (.bool true) ∧ Kept w w') a w' → K a w') :
    Code.wp Tryd.prog (headC codeB) (Exit.then K (bodyPost Tryd.prog Tryd.f7 fun e w' => e = .returned (.bool true) ∧ Kept w w')) ⟨#[u0, .slice (some ⟨b, off, none⟩) n c, u2, u3, u4, .pointer (some ⟨Y, 0, none⟩), u6, u7, u8, u9, u10, u11, u12, u13, u14, u15, u16, u17, u18, u19, u20, u21, u22, u23, u24, u25, u26, u27, u28, u29, u30, u31, u32, u33, u34, u35, u36, u37, u38, u39, u40, u41, u42, u43, u44, u45, u46, u47, u48, u49, u50, u51, u52, u53, u54, u55, u56, u57, u58, u59, u60, u61, u62, u63, u64, u65, u66, u67, u68, u69, u70, u71, u72, u73, u74, u75, u76, u77, u78, u79, u80, u81, u82, u83, u84, u85, u86, u87, u88, u89, u90, u91, u92, u93, u94, u95, u96, u97, u98, u99, u100, u101, u102, u103, u104, u105, u106, u107, u108, u109, u110, u111, u112, u113, u114, u115, u116, u117, u118, u119, u120, u121, u122, u123, u124, u125, u126, u127, u128, u129, u130, u131, u132, u133, u134, u135, u136, u137, u138, u139, u140, u141, u142, u143, u144, u145, u146, u147, u148, u149, u150, u151, u152, u153, u154, u155, u156, u157, u158, u159, u160, u161, u162, u163, u164, u165, u166, u167, u168, u169, u170, u171, u172, u173, u174, u175, u176, u177, u178, u179, u180, u181, u182, u183, u184, u185, u186, u187, u188, u189, u190, u191, u192, u193, u194, u195, u196, u197, u198, u199, u200, u201, u202, u203, u204, u205, u206, u207, u208, u209, u210, u211, u212, u213, u214, u215, u216, u217, u218, u219, u220, u221, u222, u223, u224, u225, u226, u227, u228, u229, u230, u231, u232, u233, u234, u235, u236, u237, u238, u239, u240, u241, u242, u243, u244, u245, u246, u247, u248, u249, u250, u251, u252, u253, u254, u255, u256, u257, u258, u259, u260, u261, u262, u263, u264, u265, u266, u267, u268, u269, u270, u271, u272, u273, u274, u275, u276, u277, u278, u279, u280, u281, u282, u283, u284, u285, u286, u287, u288, u289, u290, u291, u292, u293, u294, u295, u296, u297, u298, u299, u300, u301, u302, u303, u304, u305, u306, u307, u308, u309, u310, u311, u312, u313, u314, u315, u316, u317, u318, u319, u320, u321, u322, u323, u324], []⟩ W := by
  conv => arg 2; whnf
  conv at hK => enter [a, w', 1, 2]; whnf
  have hnI : (36 : Int) ≤ (n : Int) := by omega
  have hnP : (0 : Int) < (n : Int) := by omega
  go_upto_region 19 with (go_at_call 23; refine (dinq_bad b off n c bs _ hl hn hnc hB (hB.2 0 0 hx0) hpr).mono ?_; rintro e w1 ⟨rfl, hk1⟩)
  refine wp_at (fun WE => WE.heap[Y]? = some (.cells #[.int .u32 y, .int .u32 z] 57 (0, 0)) ∧ WE.heap[w1.heap.size]? = some (.cells #[.string ⟨#[]⟩, .string ⟨#[]⟩, .string ⟨#[]⟩, .bool false] 55 (0, 0)) ∧ Bs WE b off bs ∧ Kept W WE)
    ⟨heap_past (heap_kept hk1 hby), heap_at _ rfl, hB.kept (hk1.trans ((Below.refl _ _).alloc hk1.size _)), hk1.trans ((Below.refl _ _).alloc hk1.size _)⟩ (fun WE hWE => ?_)
  obtain ⟨hbyE, hgE, hBE, hkE⟩ := hWE
  obtain ⟨G, hG⟩ : ∃ G, w1.heap.size = G := ⟨_, rfl⟩
  rw [hG] at hgE ⊢
  have cg0 := cell_heap (o := 0) hgE rfl
  have cg1 := cell_heap (o := 1) hgE rfl
  have cg2 := cell_heap (o := 2) hgE rfl
  have cg3 := cell_heap (o := 3) hgE rfl
  have lG := heap_lt hgE
  have lb := hBE.1
  have c0 : WE.cell? ⟨b, off, none⟩ = some (.int .u8 0) := hBE.2 0 0 hx0
  clear hG hk1 hgE w1 hby hB hx0
  replace hbyE := Lib.hid hbyE
  replace hBE := Lib.hid hBE
  replace hl := Lib.hid hl
  replace hpr := Lib.hid hpr
  go_wp2_with fail
  go_loopg [14, 15] 28 (fun g s14 s15 wr => ∃ k : Nat, k + g = 28 ∧ s15 = .int .i64 (8 + (k : Int)) ∧ s14 = .bool (!prL ((bs.drop 8).take k)) ∧ wr = WE)
  case atStart => exact ⟨0, by omega, by rfl, by rfl, rfl⟩
  case round =>
    obtain ⟨k, hk, rfl, hq, rfl⟩ := hrel
    by_cases hlt : k < 28
    · have hlt' : 8 + (k : Int) < 36 := by omega
      have hltn : 8 + (k : Int) < (n : Int) := by omega
      have hk8 : (0 : Int) ≤ 8 + (k : Int) := by omega
      obtain ⟨x, hx⟩ : ∃ x, (bs.drop 8)[k]? = some x := ⟨_, List.getElem?_eq_getElem (by have := hl.out; simp; omega)⟩
      have hcx := (hBE.out.drop 8).2 k x hx
      rw [Nat.add_assoc] at hcx
      have htk := Lib.hid (take_ok hx)
      clear hx
      by_cases hb0 : prL ((bs.drop 8).take k) = true
      · rw [hb0] at hq
        subst hq
        replace hb0 := Lib.hid hb0
        by_cases hlo : (x.toNat : Int) < 32
        · have ho : okb x = false := by simp only [okb, Bool.and_eq_false_iff, decide_eq_false_iff_not]; omega
          replace ho := Lib.hid ho
          go_wp2_with fail
          go_roundg (gk - 1)
          case measure => omega
          case rel => exact ⟨k + 1, by omega, by go_num, by rw [htk.out, ho.out, Bool.and_false]; rfl, rfl⟩
        · have hlo' : 32 ≤ (x.toNat : Int) := by omega
          by_cases hhi : 126 < (x.toNat : Int)
          · have ho : okb x = false := by simp only [okb, Bool.and_eq_false_iff, decide_eq_false_iff_not]; omega
            replace ho := Lib.hid ho
            go_wp2_with fail
            go_roundg (gk - 1)
            case measure => omega
            case rel => exact ⟨k + 1, by omega, by go_num, by rw [htk.out, ho.out, Bool.and_false]; rfl, rfl⟩
          · have hhi' : (x.toNat : Int) ≤ 126 := by omega
            have ho : okb x = true := by simp only [okb, Bool.and_eq_true, decide_eq_true_eq]; omega
            replace ho := Lib.hid ho
            go_wp2_with fail
            go_roundg (gk - 1)
            case measure => omega
            case rel => exact ⟨k + 1, by omega, by go_num, by rw [htk.out, ho.out, hb0.out]; rfl, rfl⟩
      · have hb0 : prL ((bs.drop 8).take k) = false := by simpa using hb0
        rw [hb0] at hq
        simp only [Bool.not_false, Bool.not_true] at hq
        subst hq
        replace hb0 := Lib.hid hb0
        go_wp2_with fail
        go_roundg (gk - 1)
        case measure => omega
        case rel => exact ⟨k + 1, by omega, by go_num, by rw [htk.out, hb0.out, Bool.false_and]; rfl, rfl⟩
    · have hk28 : k = 28 := by omega
      rw [hk28, hpr.out] at hq
      simp only [Bool.not_false, Bool.not_true] at hq
      subst hq
      clear hk28
      have hlt' : 36 ≤ 8 + (k : Int) := by omega
      go_wp2_with fail
      go_quiet (fail)
      have hkQ : Kept wr (wr.drewN nq) := below_drewN (Below.refl _ _) nq
      have hkF := hkE.trans (hkQ.mono hkE.size)
      have hbyF := heap_kept hkQ hbyE.out
      go_upto_region 26 with fail
      refine inqC Y y z w _ (hT.kept hkF) hy hz hbyF (hkW.trans (hkF.mono hkW.size)) _ ?_
      assumption
end Go.Proofs.YtfojemocffelhaaDoor
/- CommandsInquiry: the bytes of an inquiry. -/
namespace Go.Proofs.YtfojemocffelhaaDoor
open Go.RowKit Go.Shelf
attribute [local go_sem ↓] Go.wp_at_zero Go.wp_at_succ

set_option maxRecDepth 1000000 in
set_option maxHeartbeats 8000000 in
theorem inqB4 {u0 u2 u3 u4 u6 u7 u8 u9 u10 u11 u12 u13 u14 u15 u16 u17 u18 u19 u20 u21 u22 u23 u24 u25 u26 u27 u28 u29 u30 u31 u32 u33 u34 u35 u36 u37 u38 u39 u40 u41 u42 u43 u44 u45 u46 u47 u48 u49 u50 u51 u52 u53 u54 u55 u56 u57 u58 u59 u60 u61 u62 u63 u64 u65 u66 u67 u68 u69 u70 u71 u72 u73 u74 u75 u76 u77 u78 u79 u80 u81 u82 u83 u84 u85 u86 u87 u88 u89 u90 u91 u92 u93 u94 u95 u96 u97 u98 u99 u100 u101 u102 u103 u104 u105 u106 u107 u108 u109 u110 u111 u112 u113 u114 u115 u116 u117 u118 u119 u120 u121 u122 u123 u124 u125 u126 u127 u128 u129 u130 u131 u132 u133 u134 u135 u136 u137 u138 u139 u140 u141 u142 u143 u144 u145 u146 u147 u148 u149 u150 u151 u152 u153 u154 u155 u156 u157 u158 u159 u160 u161 u162 u163 u164 u165 u166 u167 u168 u169 u170 u171 u172 u173 u174 u175 u176 u177 u178 u179 u180 u181 u182 u183 u184 u185 u186 u187 u188 u189 u190 u191 u192 u193 u194 u195 u196 u197 u198 u199 u200 u201 u202 u203 u204 u205 u206 u207 u208 u209 u210 u211 u212 u213 u214 u215 u216 u217 u218 u219 u220 u221 u222 u223 u224 u225 u226 u227 u228 u229 u230 u231 u232 u233 u234 u235 u236 u237 u238 u239 u240 u241 u242 u243 u244 u245 u246 u247 u248 u249 u250 u251 u252 u253 u254 u255 u256 u257 u258 u259 u260 u261 u262 u263 u264 u265 u266 u267 u268 u269 u270 u271 u272 u273 u274 u275 u276 u277 u278 u279 u280 u281 u282 u283 u284 u285 u286 u287 u288 u289 u290 u291 u292 u293 u294 u295 u296 u297 u298 u299 u300 u301 u302 u303 u304 u305 u306 u307 u308 u309 u310 u311 u312 u313 u314 u315 u316 u317 u318 u319 u320 u321 u322 u323 u324 : Value} (b off : Nat) (n c : Nat) (bs : List UInt8) (Y y z : Nat) (w W : World) (hT : Tabs W) (hy : y < 4294967296) (hz : z < 4294967296) (hby : W.heap[Y]? = some (.cells #[.int .u32 y, .int .u32 z] 57 (0, 0))) (hkW : Kept w W) (hn : 36 ≤ n) (hnc : n ≤ c)
    (hl : bs.length = n) (hB : Bs W b off bs) (hx0 : bs[0]? = some 0) (hpr : prL ((bs.drop 8).take 28) = true) (x1 : UInt8) (hx1 : bs[1]? = some x1)
    (K : Act → World → Prop) (hK : ∀ a w', Code.wp Tryd.prog (restC codeB) (bodyPost Tryd.prog Tryd.f7 fun e w' => e = .returned (.bool true) ∧ Kept w w') a w' → K a w') :
    Code.wp Tryd.prog (headC codeB) (Exit.then K (bodyPost Tryd.prog Tryd.f7 fun e w' => e = .returned (.bool true) ∧ Kept w w')) ⟨#[u0, .slice (some ⟨b, off, none⟩) n c, u2, u3, u4, .pointer (some ⟨Y, 0, none⟩), u6, u7, u8, u9, u10, u11, u12, u13, u14, u15, u16, u17, u18, u19, u20, u21, u22, u23, u24, u25, u26, u27, u28, u29, u30, u31, u32, u33, u34, u35, u36, u37, u38, u39, u40, u41, u42, u43, u44, u45, u46, u47, u48, u49, u50, u51, u52, u53, u54, u55, u56, u57, u58, u59, u60, u61, u62, u63, u64, u65, u66, u67, u68, u69, u70, u71, u72, u73, u74, u75, u76, u77, u78, u79, u80, u81, u82, u83, u84, u85, u86, u87, u88, u89, u90, u91, u92, u93, u94, u95, u96, u97, u98, u99, u100, u101, u102, u103, u104, u105, u106, u107, u108, u109, u110, u111, u112, u113, u114, u115, u116, u117, u118, u119, u120, u121, u122, u123, u124, u125, u126, u127, u128, u129, u130, u131, u132, u133, u134, u135, u136, u137, u138, u139, u140, u141, u142, u143, u144, u145, u146, u147, u148, u149, u150, u151, u152, u153, u154, u155, u156, u157, u158, u159, u160, u161, u162, u163, u164, u165, u166, u167, u168, u169, u170, u171, u172, u173, u174, u175, u176, u177, u178, u179, u180, u181, u182, u183, u184, u185, u186, u187, u188, u189, u190, u191, u192, u193, u194, u195, u196, u197, u198, u199, u200, u201, u202, u203, u204, u205, u206, u207, u208, u209, u210, u211, u212, u213, u214, u215, u216, u217, u218, u219, u220, u221, u222, u223, u224, u225, u226, u227, u228, u229, u230, u231, u232, u233, u234, u235, u236, u237, u238, u239, u240, u241, u242, u243, u244, u245, u246, u247, u248, u249, u250, u251, u252, u253, u254, u255, u256, u257, u258, u259, u260, u261, u262, u263, u264, u265, u266, u267, u268, u269, u270, u271, u272, u273, u274, u275, u276, u277, u278, u279, u280, u281, u282, u283, u284, u285, u286, u287, u288, u289, u290, u291, u292, u293, u294, u295, u296, u297, u298, u299, u300, u301, u302, u303, u304, u305, u306, u307, u308, u309, u310, u311, u312, u313, u314, u315, u316, u317, u318, u319, u320, u321, u322, u323, u324], []⟩ W := by
  conv => arg 2; whnf
  conv at hK => enter [a, w', 1, 2]; whnf
  have hnI : (36 : Int) ≤ (n : Int) := by omega
  have hnP : (0 : Int) < (n : Int) := by omega
  go_upto_region 19 with (go_at_call 23; refine (dinq_ok b off n c bs x1 _ hl hn hnc hB (hB.2 0 0 hx0) hx1 hpr).mono ?_; rintro e w1 ⟨rfl, hk1⟩)
  refine wp_at (fun WE => WE.heap[Y]? = some (.cells #[.int .u32 y, .int .u32 z] 57 (0, 0)) ∧ WE.heap[w1.heap.size]? = some (.cells #[.string (cutS bs 8 8), .string (cutS bs 16 16), .string (cutS bs 32 4), .bool (decide (128 ≤ (x1.toNat : Int)))] 55 (0, 0)) ∧ Bs WE b off bs ∧ Kept W WE)
    ⟨heap_past (heap_kept hk1 hby), heap_at _ rfl, hB.kept (hk1.trans ((Below.refl _ _).alloc hk1.size _)), hk1.trans ((Below.refl _ _).alloc hk1.size _)⟩ (fun WE hWE => ?_)
  obtain ⟨hbyE, hgE, hBE, hkE⟩ := hWE
  obtain ⟨G, hG⟩ : ∃ G, w1.heap.size = G := ⟨_, rfl⟩
  rw [hG] at hgE ⊢
  have cg0 := cell_heap (o := 0) hgE rfl
  have cg1 := cell_heap (o := 1) hgE rfl
  have cg2 := cell_heap (o := 2) hgE rfl
  have cg3 := cell_heap (o := 3) hgE rfl
  have lG := heap_lt hgE
  have lb := hBE.1
  have c0 : WE.cell? ⟨b, off, none⟩ = some (.int .u8 0) := hBE.2 0 0 hx0
  clear hG hk1 hgE w1 hby hB hx0
  replace hbyE := Lib.hid hbyE
  replace hBE := Lib.hid hBE
  replace hl := Lib.hid hl
  replace hpr := Lib.hid hpr
  have c1 := hBE.out.2 1 x1 hx1
  have hnc1 : (1 : Int) < (n : Int) := by omega
  have hc36 : (36 : Int) ≤ (c : Int) := by omega
  have hc1 : (8 : Int) < (c : Int) := by omega
  have hc2 : (16 : Int) < (c : Int) := by omega
  have hc3 : (32 : Int) < (c : Int) := by omega
  have hc4 : ¬ c = 8 := by omega
  have hc5 : ¬ c = 16 := by omega
  have hc6 : ¬ c = 32 := by omega
  have hc7 : (16 : Int) ≤ (c : Int) := by omega
  have hc8 : (32 : Int) ≤ (c : Int) := by omega
  have t8 : ∀ w' cap, Kept WE w' → 8 ≤ cap → _ := fun w' cap hk hc => trimmed_any b (off + 8) 8 cap ((bs.drop 8).take 8) w' (by have := hl.out; simp; omega) (by omega) hc (((hBE.out.kept hk).drop 8).take 8)
  have t16 : ∀ w' cap, Kept WE w' → 16 ≤ cap → _ := fun w' cap hk hc => trimmed_any b (off + 16) 16 cap ((bs.drop 16).take 16) w' (by have := hl.out; simp; omega) (by omega) hc (((hBE.out.kept hk).drop 16).take 16)
  have t32 : ∀ w' cap, Kept WE w' → 4 ≤ cap → _ := fun w' cap hk hc => trimmed_any b (off + 32) 4 cap ((bs.drop 32).take 4) w' (by have := hl.out; simp; omega) (by omega) hc (((hBE.out.kept hk).drop 32).take 4)
  replace t8 : ∀ w' cap, Kept WE w' → 8 ≤ cap → Calls Tryd.prog 24 #[.slice (some ⟨b, off + 8, none⟩) 8 cap] w' fun e w'' => e = .returned (.string (cutS bs 8 8)) ∧ w' = w'' := t8
  replace t16 : ∀ w' cap, Kept WE w' → 16 ≤ cap → Calls Tryd.prog 24 #[.slice (some ⟨b, off + 16, none⟩) 16 cap] w' fun e w'' => e = .returned (.string (cutS bs 16 16)) ∧ w' = w'' := t16
  replace t32 : ∀ w' cap, Kept WE w' → 4 ≤ cap → Calls Tryd.prog 24 #[.slice (some ⟨b, off + 32, none⟩) 4 cap] w' fun e w'' => e = .returned (.string (cutS bs 32 4)) ∧ w' = w'' := t32
  have hs1 := Lib.hid (show ∃ S, cutS bs 8 8 = S from ⟨_, rfl⟩)
  generalize cutS bs 8 8 = S1 at *
  generalize cutS bs 16 16 = S2 at *
  generalize cutS bs 32 4 = S3 at *
  clear hs1
  go_wp2_with fail
  go_loopg [14, 15] 28 (fun g s14 s15 wr => ∃ k : Nat, k + g = 28 ∧ s15 = .int .i64 (8 + (k : Int)) ∧ s14 = .bool (!prL ((bs.drop 8).take k)) ∧ wr = WE)
  case atStart => exact ⟨0, by omega, by rfl, by rfl, rfl⟩
  case round =>
    obtain ⟨k, hk, rfl, hq, rfl⟩ := hrel
    by_cases hlt : k < 28
    · have hlt' : 8 + (k : Int) < 36 := by omega
      have hltn : 8 + (k : Int) < (n : Int) := by omega
      have hk8 : (0 : Int) ≤ 8 + (k : Int) := by omega
      obtain ⟨x, hx⟩ : ∃ x, (bs.drop 8)[k]? = some x := ⟨_, List.getElem?_eq_getElem (by have := hl.out; simp; omega)⟩
      have hcx := (hBE.out.drop 8).2 k x hx
      rw [Nat.add_assoc] at hcx
      have htk := Lib.hid (take_ok hx)
      clear hx
      by_cases hb0 : prL ((bs.drop 8).take k) = true
      · rw [hb0] at hq
        subst hq
        replace hb0 := Lib.hid hb0
        by_cases hlo : (x.toNat : Int) < 32
        · have ho : okb x = false := by simp only [okb, Bool.and_eq_false_iff, decide_eq_false_iff_not]; omega
          replace ho := Lib.hid ho
          go_wp2_with fail
          go_roundg (gk - 1)
          case measure => omega
          case rel => exact ⟨k + 1, by omega, by go_num, by rw [htk.out, ho.out, Bool.and_false]; rfl, rfl⟩
        · have hlo' : 32 ≤ (x.toNat : Int) := by omega
          by_cases hhi : 126 < (x.toNat : Int)
          · have ho : okb x = false := by simp only [okb, Bool.and_eq_false_iff, decide_eq_false_iff_not]; omega
            replace ho := Lib.hid ho
            go_wp2_with fail
            go_roundg (gk - 1)
            case measure => omega
            case rel => exact ⟨k + 1, by omega, by go_num, by rw [htk.out, ho.out, Bool.and_false]; rfl, rfl⟩
          · have hhi' : (x.toNat : Int) ≤ 126 := by omega
            have ho : okb x = true := by simp only [okb, Bool.and_eq_true, decide_eq_true_eq]; omega
            replace ho := Lib.hid ho
            go_wp2_with fail
            go_roundg (gk - 1)
            case measure => omega
            case rel => exact ⟨k + 1, by omega, by go_num, by rw [htk.out, ho.out, hb0.out]; rfl, rfl⟩
      · have hb0 : prL ((bs.drop 8).take k) = false := by simpa using hb0
        rw [hb0] at hq
        simp only [Bool.not_false, Bool.not_true] at hq
        subst hq
        replace hb0 := Lib.hid hb0
        go_wp2_with fail
        go_roundg (gk - 1)
        case measure => omega
        case rel => exact ⟨k + 1, by omega, by go_num, by rw [htk.out, hb0.out, Bool.false_and]; rfl, rfl⟩
    · have hk28 : k = 28 := by omega
      rw [hk28, hpr.out] at hq
      simp only [Bool.not_false, Bool.not_true] at hq
      subst hq
      clear hk28
      have hlt' : 36 ≤ 8 + (k : Int) := by omega
      go_wp2_with fail
      refine wp_region_quiet_lit (by kernel_rfl) (by kernel_rfl) ?_
      iterate 22 go_big_quiet_step (fail)
      go_big_quiet_step (exact (t8 _ (c - 8) (below_drewN (Below.refl _ _) _) (by omega)).mono fun _ _ h => ⟨h.1, _, h.2.symm⟩)
      iterate 2 go_big_quiet_step (fail)
      go_big_quiet_step (exact (t16 _ (c - 16) (below_drewN (Below.refl _ _) _) (by omega)).mono fun _ _ h => ⟨h.1, _, h.2.symm⟩)
      iterate 2 go_big_quiet_step (fail)
      go_big_quiet_step (exact (t32 _ (c - 32) (below_drewN (Below.refl _ _) _) (by omega)).mono fun _ _ h => ⟨h.1, _, h.2.symm⟩)
      clear t8 t16 t32
      repeat go_big_quiet_step (fail)
      refine wpQuiet_nil ?_
      intro _ hw'
      obtain ⟨nq, hw''⟩ := hw'
      subst hw''
      have hkQ : Kept wr (wr.drewN nq) := below_drewN (Below.refl _ _) nq
      have hkF := hkE.trans (hkQ.mono hkE.size)
      have hbyF := heap_kept hkQ hbyE.out
      go_upto_region 26 with fail
      refine inqC Y y z w _ (hT.kept hkF) hy hz hbyF (hkW.trans (hkF.mono hkW.size)) _ ?_
      assumption
end Go.Proofs.YtfojemocffelhaaDoor
/- CommandsInquiry: the bytes, together. -/
namespace Go.Proofs.YtfojemocffelhaaDoor
open Go.RowKit Go.Shelf

set_option maxRecDepth 1000000 in
theorem inqB {u0 u2 u3 u4 u6 u7 u8 u9 u10 u11 u12 u13 u14 u15 u16 u17 u18 u19 u20 u21 u22 u23 u24 u25 u26 u27 u28 u29 u30 u31 u32 u33 u34 u35 u36 u37 u38 u39 u40 u41 u42 u43 u44 u45 u46 u47 u48 u49 u50 u51 u52 u53 u54 u55 u56 u57 u58 u59 u60 u61 u62 u63 u64 u65 u66 u67 u68 u69 u70 u71 u72 u73 u74 u75 u76 u77 u78 u79 u80 u81 u82 u83 u84 u85 u86 u87 u88 u89 u90 u91 u92 u93 u94 u95 u96 u97 u98 u99 u100 u101 u102 u103 u104 u105 u106 u107 u108 u109 u110 u111 u112 u113 u114 u115 u116 u117 u118 u119 u120 u121 u122 u123 u124 u125 u126 u127 u128 u129 u130 u131 u132 u133 u134 u135 u136 u137 u138 u139 u140 u141 u142 u143 u144 u145 u146 u147 u148 u149 u150 u151 u152 u153 u154 u155 u156 u157 u158 u159 u160 u161 u162 u163 u164 u165 u166 u167 u168 u169 u170 u171 u172 u173 u174 u175 u176 u177 u178 u179 u180 u181 u182 u183 u184 u185 u186 u187 u188 u189 u190 u191 u192 u193 u194 u195 u196 u197 u198 u199 u200 u201 u202 u203 u204 u205 u206 u207 u208 u209 u210 u211 u212 u213 u214 u215 u216 u217 u218 u219 u220 u221 u222 u223 u224 u225 u226 u227 u228 u229 u230 u231 u232 u233 u234 u235 u236 u237 u238 u239 u240 u241 u242 u243 u244 u245 u246 u247 u248 u249 u250 u251 u252 u253 u254 u255 u256 u257 u258 u259 u260 u261 u262 u263 u264 u265 u266 u267 u268 u269 u270 u271 u272 u273 u274 u275 u276 u277 u278 u279 u280 u281 u282 u283 u284 u285 u286 u287 u288 u289 u290 u291 u292 u293 u294 u295 u296 u297 u298 u299 u300 u301 u302 u303 u304 u305 u306 u307 u308 u309 u310 u311 u312 u313 u314 u315 u316 u317 u318 u319 u320 u321 u322 u323 u324 : Value} (A : Option Addr) (n c : Nat) (bs : List UInt8) (Y y z : Nat) (w W : World) (hT : Tabs W) (hy : y < 4294967296) (hz : z < 4294967296) (hby : W.heap[Y]? = some (.cells #[.int .u32 y, .int .u32 z] 57 (0, 0))) (hkW : Kept w W) (hnc : n ≤ c)
    (hl : Sl byT W (low W.heap.size) A n bs)
    (K : Act → World → Prop) (hK : ∀ a w', Code.wp Tryd.prog (restC codeB) (bodyPost Tryd.prog Tryd.f7 fun e w' => e = .returned (.bool true) ∧ Kept w w') a w' → K a w') :
    Code.wp Tryd.prog (headC codeB) (Exit.then K (bodyPost Tryd.prog Tryd.f7 fun e w' => e = .returned (.bool true) ∧ Kept w w')) ⟨#[u0, .slice A n c, u2, u3, u4, .pointer (some ⟨Y, 0, none⟩), u6, u7, u8, u9, u10, u11, u12, u13, u14, u15, u16, u17, u18, u19, u20, u21, u22, u23, u24, u25, u26, u27, u28, u29, u30, u31, u32, u33, u34, u35, u36, u37, u38, u39, u40, u41, u42, u43, u44, u45, u46, u47, u48, u49, u50, u51, u52, u53, u54, u55, u56, u57, u58, u59, u60, u61, u62, u63, u64, u65, u66, u67, u68, u69, u70, u71, u72, u73, u74, u75, u76, u77, u78, u79, u80, u81, u82, u83, u84, u85, u86, u87, u88, u89, u90, u91, u92, u93, u94, u95, u96, u97, u98, u99, u100, u101, u102, u103, u104, u105, u106, u107, u108, u109, u110, u111, u112, u113, u114, u115, u116, u117, u118, u119, u120, u121, u122, u123, u124, u125, u126, u127, u128, u129, u130, u131, u132, u133, u134, u135, u136, u137, u138, u139, u140, u141, u142, u143, u144, u145, u146, u147, u148, u149, u150, u151, u152, u153, u154, u155, u156, u157, u158, u159, u160, u161, u162, u163, u164, u165, u166, u167, u168, u169, u170, u171, u172, u173, u174, u175, u176, u177, u178, u179, u180, u181, u182, u183, u184, u185, u186, u187, u188, u189, u190, u191, u192, u193, u194, u195, u196, u197, u198, u199, u200, u201, u202, u203, u204, u205, u206, u207, u208, u209, u210, u211, u212, u213, u214, u215, u216, u217, u218, u219, u220, u221, u222, u223, u224, u225, u226, u227, u228, u229, u230, u231, u232, u233, u234, u235, u236, u237, u238, u239, u240, u241, u242, u243, u244, u245, u246, u247, u248, u249, u250, u251, u252, u253, u254, u255, u256, u257, u258, u259, u260, u261, u262, u263, u264, u265, u266, u267, u268, u269, u270, u271, u272, u273, u274, u275, u276, u277, u278, u279, u280, u281, u282, u283, u284, u285, u286, u287, u288, u289, u290, u291, u292, u293, u294, u295, u296, u297, u298, u299, u300, u301, u302, u303, u304, u305, u306, u307, u308, u309, u310, u311, u312, u313, u314, u315, u316, u317, u318, u319, u320, u321, u322, u323, u324], []⟩ W := by
  by_cases hn : n < 36
  · exact inqB1 A n c Y y z w W hT hy hz hby hkW hn K hK
  · obtain ⟨b, off, rfl, hB⟩ := Bs.of_sl hl (by omega)
    obtain ⟨x0, hx0⟩ : ∃ x, bs[0]? = some x := ⟨_, List.getElem?_eq_getElem (by have := hl.1; omega)⟩
    obtain ⟨x1, hx1⟩ : ∃ x, bs[1]? = some x := ⟨_, List.getElem?_eq_getElem (by have := hl.1; omega)⟩
    by_cases h0 : x0 = 0
    · subst h0
      cases hp : prL ((bs.drop 8).take 28)
      · exact inqB3 b off n c bs Y y z w W hT hy hz hby hkW (by omega) hnc hl.1 hB hx0 hp K hK
      · exact inqB4 b off n c bs Y y z w W hT hy hz hby hkW (by omega) hnc hl.1 hB hx0 hp x1 hx1 K hK
    · have hc := hB.2 0 x0 hx0
      rw [Nat.add_zero] at hc
      exact inqB2 b off n c _ Y y z w W hT hy hz hby hkW (by omega) hB.1 hc (fun h => h0 (UInt8.toNat_inj.1 (by show _ = 0; omega))) K hK
end Go.Proofs.YtfojemocffelhaaDoor
