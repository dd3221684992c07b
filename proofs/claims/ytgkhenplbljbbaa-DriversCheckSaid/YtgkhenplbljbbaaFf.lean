

/- DriversCheck: New, Choose and Check of the drivers that the law has put together. The slices read as lists. -/
import Derived.Test.YtgkhenplbljbbaaChecked
import Derived.Deep.RegionHeld3
import Derived.Deep.DrawnRows
import Derived.Deep.DeepCutAuto
import Derived.Deep.LoopGhost
import Derived.Outline
import Derived.Handy
import Derived.Deep.RegionLaw
import Derived.OwnWalk
import Derived.Test.YtgkhenplbljbbaaFe
import Derived.Test.YtgkhenplbljbbaaEb
import Derived.Test.YtgkhenplbljbbaaEg
set_option linter.unusedVariables false
set_option linter.unusedSimpArgs false
set_option linter.unusedSectionVars false
namespace Go.Proofs.Ytgkhenplbljbbaa
open Go.RowKit Go.Maps
attribute [local go_sem ↓] Go.wp_at_zero Go.wp_at_succ

noncomputable def codeM : Code := (Try.f8.body.bind (fromR 25)).getD .skip
theorem cfs_four (x : List Cp) : (cfsOf x).length ≤ 4 := by unfold cfsOf; simp; omega
theorem sl_allR {w : World} {F : Nat → Prop} {A : Option Addr} {n : Nat} {l : List Drv} (h : Sl drvT w F A n l) : allR l (fun _ _ r => r.ok) := by
  intro k d j r hd hr
  obtain ⟨b, off, cs, _, _, ⟨A2, c2, _, _, _, _, hs⟩, _⟩ := h.2 k d hd
  obtain ⟨_, _, _, _, _, hrel, _⟩ := hs.2 j r hr
  exact hrel.2
set_option maxRecDepth 100000 in
set_option maxHeartbeats 4000000 in
theorem choose_bad (A : Option Addr) (n c : Nat) (l : List Drv) (a v p : Int) (A2 : Option Addr) (m c2 : Nat) (cur : Int) (w : World) (hn : n ≤ maxLen) (hl : Sl drvT w (low w.heap.size) A n l) (hz : checkS l ≠ 0) :
    Calls Try.prog 19 #[.slice A n c, .agg #[.int .u8 (a), .slice none 0 0, .int .u8 0, .int .u8 0, .int .u8 0, .int .u16 0, .int .u8 0, .int .u8 0, .int .u8 0, .int .u8 0, .int .u16 (v), .int .u16 (p), .int .u16 0, .int .u8 0, .int .u8 0, .int .u8 0, .int .u8 0, .slice A2 m c2], .int .i64 cur] w fun e w' => e = .returned (.tuple #[.agg #[.int .u8 (0), .slice none 0 0], .int .i64 (checkS l)]) ∧ Kept w w' := by
  have HC := fun w' h => check_any A n c l w' hn h
  generalize checkS l = z at *
  have hb : (z != 0) = true := by simpa using hz
  clear hz
  go_enter Try.func19, Try.ntmps19
  go_wp2_with (go_at_call 16; refine (HC _ (hl.kept (by go_grown))).mono ?_; rintro e w1 ⟨rfl, hk⟩; obtain ⟨hcq, hfq⟩ := bcell hk)
  have hk1 : Kept w w1 := (Below.trans (by go_grown) (hk.mono (by simp only [World.size_alloc]; omega)))
  refine bodyPost_ret (v := .tuple #[.agg #[.int .u8 (0), .slice none 0 0], .int .i64 (z)]) (by simp [results, Try.results19, go_sem, *]) rfl ?_
  exact ⟨rfl, by go_grown⟩

set_option maxRecDepth 1000000 in
set_option maxHeartbeats 8000000 in
theorem dchkM {u0 u1 u2 u3 u4 u6 u8 u9 u10 u12 u13 u14 u15 u16 u17 u18 u19 u20 u21 u22 u23 u24 u25 u26 u27 u28 u29 u30 u31 u32 u33 u34 u35 u36 u37 u38 u39 u40 u41 u42 u43 u44 u45 u46 u47 u48 u49 u50 u51 u52 u53 u54 u55 u56 u57 u58 u59 u60 u61 u62 u63 u64 u65 u66 u67 u68 u69 u70 u71 u72 u73 u74 u75 u76 u77 u78 u79 u80 u81 u82 u83 u84 u85 u86 u87 u88 u89 u90 u91 u92 u93 u94 u95 u96 u97 u98 u99 u100 u101 u102 u103 u104 u105 u106 u107 u108 u109 u110 u111 u112 u113 u114 u115 u116 u117 u118 u119 u120 u121 u122 u123 u124 u125 u126 u127 u128 u129 u130 u131 u132 u133 u134 u135 u136 u137 u138 u139 u140 u141 u142 u143 u144 u145 u146 u147 u148 u149 u150 u151 u152 u153 u154 u155 u156 u157 u158 u159 u160 u161 u162 u163 u164 u165 u166 u167 u168 u169 u170 u171 u172 u173 u174 u175 u176 u177 u178 u179 u180 u181 u182 u183 u184 u185 : Value} (Y : Nat) (ids : Int) (B : Option Addr) (m cm : Nat) (y : List Cp) (A : Option Addr) (n c : Nat) (l : List Drv) (w W : World) (hn : n ≤ maxLen) (HY : W.heap[Y]? = some (.cells #[.int .u8 ids, .slice B m cm] 37 (0, 0)))
    (hi0 : 0 ≤ ids) (hi1 : ids < 256) (hm : m ≤ maxLen) (hy : Sl cpT W (low W.heap.size) B m y) (hl : Sl drvT W (low W.heap.size) A n l) (hkW : Kept w W)
    (K : Act → World → Prop) (hK : ∀ a w', Code.wp Try.prog (restC codeM) (bodyPost Try.prog Try.f8 fun e w' => e = .returned (.bool true) ∧ Kept w w') a w' → K a w') :
    Code.wp Try.prog (headC codeM) (Exit.then K (bodyPost Try.prog Try.f8 fun e w' => e = .returned (.bool true) ∧ Kept w w')) ⟨#[u0, u1, u2, u3, u4, .pointer (some ⟨Y, 0, none⟩), u6, .slice A n c, u8, u9, u10, .int .i64 (checkS l), u12, u13, u14, u15, u16, u17, u18, u19, u20, u21, u22, u23, u24, u25, u26, u27, u28, u29, u30, u31, u32, u33, u34, u35, u36, u37, u38, u39, u40, u41, u42, u43, u44, u45, u46, u47, u48, u49, u50, u51, u52, u53, u54, u55, u56, u57, u58, u59, u60, u61, u62, u63, u64, u65, u66, u67, u68, u69, u70, u71, u72, u73, u74, u75, u76, u77, u78, u79, u80, u81, u82, u83, u84, u85, u86, u87, u88, u89, u90, u91, u92, u93, u94, u95, u96, u97, u98, u99, u100, u101, u102, u103, u104, u105, u106, u107, u108, u109, u110, u111, u112, u113, u114, u115, u116, u117, u118, u119, u120, u121, u122, u123, u124, u125, u126, u127, u128, u129, u130, u131, u132, u133, u134, u135, u136, u137, u138, u139, u140, u141, u142, u143, u144, u145, u146, u147, u148, u149, u150, u151, u152, u153, u154, u155, u156, u157, u158, u159, u160, u161, u162, u163, u164, u165, u166, u167, u168, u169, u170, u171, u172, u173, u174, u175, u176, u177, u178, u179, u180, u181, u182, u183, u184, u185], []⟩ W := by
  conv => arg 2; whnf
  conv at hK => enter [a, w', 1, 2]; whnf
  have b0 := cell_heap HY (o := 0) rfl
  have b1 := cell_heap HY (o := 1) rfl
  have hYl := heap_lt HY
  clear HY
  have hc4 := cfs_four y
  generalize hcfs : cfsOf y = cfs at *
  have Hc := hide hcfs
  clear hcfs
  go_upto_region 26 with (first
    | (refine wpList_store_row rfl 34 (.tmp 14) (.tmp 104) rfl _ _ (by rfl) (by rfl) 34 _ (by repeat' first | exact heap_at _ (by first | rfl | (simp; done) | (simp; omega)) | exact heap_row (by assumption) | assumption | refine heap_past ?_ | refine heap_drew ?_) (by kernel_rfl) (by rfl) (by simp [Value.oneCell']) ?_)
    | (go_at_call 10; refine (fof_any ids 1 B m cm y _ hi0 hi1 hm (by exact hy)).mono ?_; rw [Hc.out]; rintro e w2 ⟨Ac, cc, rfl, hq1, hq2, hslc, hk2⟩))
  refine wp_at (fun W3 => W3.heap[w2.heap.size]? = some (.cells #[.int .u8 (1), .slice none 0 0, .int .u8 0, .int .u8 0, .int .u8 0, .int .u16 0, .int .u8 0, .int .u8 0, .int .u8 0, .int .u8 0, .int .u16 (venOf ids), .int .u16 (proOf ids), .int .u16 0, .int .u8 0, .int .u8 0, .int .u8 0, .int .u8 0, .slice Ac cfs.length cc] 34 (0, 0)) ∧ Kept w2 W3) ⟨heap_row (heap_at _ rfl), below_row ((Below.refl _ _).alloc (Nat.le_refl _) _) (Nat.le_refl _) _⟩ (fun W3 hW3 => ?_)
  obtain ⟨HF, hk3⟩ := hW3
  have hl3 := (hl.kept hk2).kept hk3
  have hsc3 := hslc.kept hk3
  have hkw3 : Kept w W3 := (hkW.trans' hk2).trans' hk3
  clear hslc hl hy b0 b1 hYl hk2 hk3 hkW
  have hnl := hl3.1
  have HF' := hide HF
  clear HF
  have hal := sl_allR hl3
  generalize hcn : cfs.length = cn at *
  by_cases hz : checkS l = 0
  · rw [hz]
    obtain ⟨rq, rL, re, hch⟩ : ∃ rq rL re, choiceB (mtS l (venOf ids) (proOf ids)) 510 cfs = (rq, rL, re) := ⟨_, _, _, rfl⟩
    have Hch := hide hch
    clear hch
    have Hal := hide hal
    clear hal
    go_upto_region 27 with (go_at_call 22; refine (new_good A n c l _ hn (by exact hl3) hz).mono ?_; rintro e w4 ⟨p, bb, mm, rfl, hg1, hg2, hg3, hg4, hk4⟩)
    clear hg1 hg2 hg3 hg4
    have hl4 := hl3.kept hk4
    have hsc4 := hsc3.kept hk4
    have HF4 := hide (heap_kept hk4 HF'.out)
    have hkw4 := hkw3.trans' hk4
    clear hl3 hsc3 HF' hkw3 hk4
    generalize w2.heap.size = F at *
    go_upto_region 28 with (first
      | (refine wpList_load_row rfl 34 (.tmp 14) rfl F (by rfl) 34 _ (0, 0) _ HF4.out Try.underlying34 rfl (by kernel_rfl) ?_)
      | (go_at_call 19; refine (choose_any _ _ _ l _ _ _ _ _ _ cfs _ _ hn (by exact hl4) Hal.out hz hc4 (by exact hsc4)).mono ?_; rw [Hch.out]; dsimp only; rintro e w5 ⟨A5, rfl, hs5, hk5⟩))
    refine wp_at (fun W6 => Kept w4 W6) (Below.trans hk5 (by go_grown; exact hk5.size)) (fun W6 hk6 => ?_)
    have hl6 := hl4.kept hk6
    have HF6 := hide (heap_kept hk6 HF4.out)
    have hkw6 := hkw4.trans' hk6
    clear hl4 hsc4 HF4 hkw4 hk6 hs5 hk5
    go_upto_region 30 with (go_at_call 16; refine (check_any A n c l _ hn (by exact hl6)).mono ?_; rw [hz]; rintro e w7 ⟨rfl, hk7⟩)
    refine dchkN F _ _ _ _ _ _ w w7 (heap_kept hk7 HF6.out) (hkw6.trans' hk7) _ ?_
    assumption
  · have hnb := fun w' h => new_bad A n c l w' hn h hz
    have hcb := fun Z m3 c3 w' h => choose_bad A n c l 1 (venOf ids) (proOf ids) Z m3 c3 510 w' hn h hz
    have hck := fun w' h => check_any A n c l w' hn h
    generalize checkS l = z at *
    have hz1 : (z != 0) = true := by simpa using hz
    have hz2 : (z == 0) = false := by simpa using hz
    clear hal
    go_upto_region 27 with (go_at_call 22; refine (hnb _ (by exact hl3)).mono ?_; rintro e w4 ⟨rfl, hk4⟩)
    have hl4 := hl3.kept hk4
    have HF4 := hide (heap_kept hk4 HF'.out)
    have hkw4 := hkw3.trans' hk4
    clear hl3 hsc3 HF' hkw3 hk4
    generalize w2.heap.size = F at *
    go_upto_region 28 with (first
      | (refine wpList_load_row rfl 34 (.tmp 14) rfl F (by rfl) 34 _ (0, 0) _ HF4.out Try.underlying34 rfl (by kernel_rfl) ?_)
      | (go_at_call 19; refine (hcb _ _ _ _ (by exact hl4)).mono ?_; rintro e w5 ⟨rfl, hk5⟩))
    refine wp_at (fun W6 => Kept w4 W6) (Below.trans hk5 (by go_grown; exact hk5.size)) (fun W6 hk6 => ?_)
    have hl6 := hl4.kept hk6
    have HF6 := hide (heap_kept hk6 HF4.out)
    have hkw6 := hkw4.trans' hk6
    clear hl4 HF4 hkw4 hk6 hk5
    go_upto_region 30 with (go_at_call 16; refine (hck _ (by exact hl6)).mono ?_; rintro e w7 ⟨rfl, hk7⟩)
    refine dchkN F _ _ _ _ _ _ w w7 (heap_kept hk7 HF6.out) (hkw6.trans' hk7) _ ?_
    assumption
end Go.Proofs.Ytgkhenplbljbbaa
