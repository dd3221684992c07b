
/- The walk of DriversChoose. The plain data reads as rows of bytes, the number is one of 16 bits. -/
import Derived.Test.YtgkhenplbljbbaaChecked
import Derived.Deep.RegionHeld3
import Derived.Deep.DrawnRows
import Derived.Deep.DeepCutAuto
import Derived.Deep.LoopGhost
import Derived.Outline
import Derived.Handy
import Derived.Deep.RegionLaw
import Derived.Test.YtgkhenplbljbbaaEb
import Derived.Test.YtgkhenplbljbbaaEh
import Derived.Test.YtgkhenplbljbbaaEi
import Derived.Test.YtgkhenplbljbbaaWi
set_option linter.unusedVariables false
set_option linter.unusedSimpArgs false
set_option linter.unusedSectionVars false
namespace Go.Proofs.Ytgkhenplbljbbaa
open Go.RowKit
attribute [local go_sem ↓] Go.wp_at_zero Go.wp_at_succ

theorem cfsOf_len (x : List Cp) : (cfsOf x).length ≤ 4 := by unfold cfsOf; simp; omega

theorem best_mem {o : Ofr} : ∀ (l : List Ofr) (b : Option Ofr), l.foldl stepB b = some o → b = some o ∨ o ∈ l
  | [], b, h => .inl h
  | x :: l, b, h => by
    rcases best_mem l (stepB b x) h with h1 | h1
    · cases b with
      | none => right; have e : x = o := by simpa [stepB] using h1
                rw [e]; exact List.mem_cons_self
      | some b =>
        unfold stepB at h1
        dsimp only at h1
        split at h1
        · right; injection h1 with e; rw [e]; exact List.mem_cons_self
        · left; exact h1
    · right; exact List.mem_cons_of_mem _ h1
theorem choiceB_len (mt : Int → Int × Int) (cur : Int) {l : List Cf} (h : ∀ c ∈ l, c.ifs.length ≤ 5) : (choiceB mt cur l).2.1.length ≤ 5 := by
  unfold choiceB
  split
  · simp
  · split
    · simp
    · rename_i o ho
      rcases best_mem _ _ ho with h1 | h1
      · cases h1
      · obtain ⟨c, hc, rfl⟩ := List.mem_map.1 h1
        have := h c (List.mem_filter.1 hc).1
        simpa [ofrOf] using this
theorem cfsOf_ifs (x : List Cp) : ∀ c ∈ cfsOf x, c.ifs.length ≤ 5 := by
  intro c hc
  obtain ⟨i, hi, e⟩ := List.getElem_of_mem hc
  have h2 : (cfsOf x)[i]? = some c := by rw [List.getElem?_eq_getElem hi, e]
  unfold cfsOf at h2
  rw [List.getElem?_mapIdx, Option.map_eq_some_iff] at h2
  obtain ⟨a, _, rfl⟩ := h2
  show ((a.ifs.take 5).map altsOf).length ≤ 5
  simp; omega

set_option maxRecDepth 100000 in
set_option maxHeartbeats 4000000 in
theorem dchoose_walk (A : Option Addr) (n c : Nat) (x : List (List Rp)) (ids : Int) (B : Option Addr) (m cm : Nat) (y : List Cp) (cu : Int) (w : World) (hn : n ≤ maxLen) (hx : Sl rpT.slice w (low w.heap.size) A n x) (hok : rowsOk x)
    (hm : m ≤ maxLen) (hy : Sl cpT w (low w.heap.size) B m y) (hi : u8ok ids) (hc0 : 0 ≤ cu) (hc1 : cu < 65536) :
    Calls Try.prog 6 #[.slice A n c, .agg #[.int .u8 ids, .slice B m cm], .int .u16 cu] w fun e w' => e = .returned (.bool true) ∧ Kept w w' := by
  obtain ⟨hi0, hi1⟩ := hi
  have hrl := dOf_rules hok
  have hlen := dOf_len x
  have hck := check_dOf hok
  generalize hl : dOf x = l at *
  have Hl := hide hl
  clear hl
  have hcl := cfsOf_len y
  have hci := cfsOf_ifs y
  generalize hcfs : cfsOf y = cfs at *
  have Hc := hide hcfs
  clear hcfs
  have hr5 := choiceB_len (mtS l (venOf ids) (proOf ids)) (cu % 600) hci
  clear hci
  obtain ⟨rq, rL, re, hch⟩ : ∃ rq rL re, choiceB (mtS l (venOf ids) (proOf ids)) (cu % 600) cfs = (rq, rL, re) := ⟨_, _, _, rfl⟩
  rw [hch] at hr5
  dsimp only at hr5
  generalize hrn : rL.length = rn at *
  have Hch := hide hch
  have Hrn := hide hrn
  clear hch hrn
  go_enter Try.func6, Try.ntmps6
  go_upto_region 2 with (first
    | (go_at_call 9; refine (dof_any _ _ _ _ _ hn (by exact hx.kept (by go_grown))).mono ?_; rw [Hl.out]; rintro e w1 ⟨v, rfl, hown, hk1⟩; obtain ⟨Av, cv, rfl, hv1, hv2⟩ := hown.isSlice))
  refine wp_at (fun W => W.heap[w.heap.size]? = some (.cells #[.int .u8 ids, .slice B m cm] 37 (0, 0)) ∧ Kept w W ∧ Sl drvT W (low W.heap.size) Av l.length l) ⟨heap_kept hk1 (heap_at _ rfl), Below.trans (by go_grown) (hk1.mono (by simp only [World.size_alloc]; omega)), hown.sl⟩ (fun W hW => ?_)
  clear hk1 hown
  obtain ⟨HX, hkW, hsl⟩ := hW
  have b0 := cell_heap HX (o := 0) rfl
  have b1 := cell_heap HX (o := 1) rfl
  have hxl := heap_lt HX
  clear HX
  generalize hll : l.length = ll at *
  go_upto_region 3 with (first
    | (refine wpList_store_row rfl 34 (.tmp 8) (.tmp 16) rfl _ _ (by rfl) (by rfl) 34 _ (by repeat' first | exact heap_at _ (by first | rfl | (simp; done) | (simp; omega)) | exact heap_row (by assumption) | assumption | refine heap_past ?_ | refine heap_drew ?_) (by kernel_rfl) (by rfl) (by simp [Value.oneCell']) ?_)
    | (go_at_call 10; refine (fof_any ids 1 B m cm y _ hi0 hi1 hm (by exact hy.kept hkW)).mono ?_; rw [Hc.out]; rintro e w2 ⟨Ac, cc, rfl, hq1, hq2, hslc, hk2⟩))
  have hkq : Kept w w2 := hkW.trans' hk2
  refine wp_at (fun W3 => W3.heap[w2.heap.size]? = some (.cells #[.int .u8 (1), .slice none 0 0, .int .u8 0, .int .u8 0, .int .u8 0, .int .u16 0, .int .u8 0, .int .u8 0, .int .u8 0, .int .u8 0, .int .u16 (venOf ids), .int .u16 (proOf ids), .int .u16 0, .int .u8 0, .int .u8 0, .int .u8 0, .int .u8 0, .slice Ac cfs.length cc] 34 (0, 0)) ∧ Kept w2 W3) ⟨heap_row (heap_at _ rfl), below_row ((Below.refl _ _).alloc (Nat.le_refl _) _) (Nat.le_refl _) _⟩ (fun W3 hW3 => ?_)
  obtain ⟨HF, hk3⟩ := hW3
  have hsl3 := hide ((hsl.kept hk2).kept hk3)
  have hsc3 := hide (hslc.kept hk3)
  have hkw3 : Kept w W3 := hkq.trans' hk3
  clear hsl hslc hk2 hk3 hkq b0 b1 hxl hkW
  generalize hcn : cfs.length = cn at *
  have hln : ll ≤ maxLen := by unfold maxLen; omega
  have HF' := hide HF
  clear HF
  have hm6 : cu % 600 < 600 := Int.emod_lt_of_pos _ (by decide)
  have hm7 : 0 ≤ cu % 600 := Int.emod_nonneg _ (by decide)
  go_upto_region 4 with (first
    | (refine wpList_load_row rfl 34 (.tmp 8) rfl (w2.heap.size) (by rfl) 34 _ (0, 0) _ (HF'.out) Try.underlying34 rfl (by kernel_rfl) ?_)
    | (go_at_call 19; refine (choose_any _ _ _ l _ _ _ _ _ _ cfs _ _ hln (by exact hsl3.out) hrl hck hcl (by exact hsc3.out)).mono ?_; rw [Hch.out]; dsimp only; rw [Hrn.out]; rintro e w4 ⟨A4, rfl, hs4, hk4⟩))
  have hw4 := hide hs4
  refine wp_at (fun W5 => W5.heap[w4.heap.size]? = some (.cells #[.int .u8 rq, .slice A4 rn rn] 63 (0, 0)) ∧ Kept w4 W5) ⟨heap_at _ rfl, by go_grown⟩ (fun W5 hW5 => ?_)
  obtain ⟨HG, hk5⟩ := hW5
  have HF5 := hide (heap_kept hk5 (heap_kept hk4 HF'.out))
  have hkw5 : Kept w W5 := (hkw3.trans' hk4).trans' hk5
  have hsl5 := hide ((hsl3.out.kept hk4).kept hk5)
  have hsc5 := hide ((hsc3.out.kept hk4).kept hk5)
  have hs45 := hide (hs4.kept hk5)
  have HG5 := hide HG
  clear HG hk5 hk4 hs4 hw4 hsl3 hsc3 HF' hkw3
  go_upto_region 5 with (first
    | (refine wpList_load_row rfl 34 (.tmp 8) rfl (w2.heap.size) (by rfl) 34 _ (0, 0) _ (HF5.out) Try.underlying34 rfl (by kernel_rfl) ?_)
    | (go_at_call 20; refine (lchoose_any _ _ _ l _ _ _ _ _ _ cfs _ _ hln (by exact hsl5.out) hrl hcl (by exact hsc5.out)).mono ?_; rw [Hch.out]; dsimp only; rw [Hrn.out]; rintro e w6 ⟨A6, c6, rfl, hs6, hk6⟩))
  refine wp_at (fun W7 => W7.heap[w6.heap.size]? = some (.cells #[.int .u8 rq, .slice A6 rn c6] 63 (0, 0)) ∧ Kept w6 W7) ⟨heap_at _ rfl, by go_grown⟩ (fun W7 hW7 => ?_)
  obtain ⟨HI, hk7⟩ := hW7
  have HG7 := heap_kept hk7 (heap_kept hk6 HG5.out)
  have hkw7 : Kept w W7 := (hkw5.trans' hk6).trans' hk7
  have hs47 := hide ((hs45.out.kept hk6).kept hk7)
  have hs67 := hide (hs6.kept hk7)
  have g0 := cell_heap HG7 (o := 0) rfl
  have g1 := cell_heap HG7 (o := 1) rfl
  have i0 := cell_heap HI (o := 0) rfl
  have i1 := cell_heap HI (o := 1) rfl
  have hgl := heap_lt HG7
  have hil := heap_lt HI
  clear HG7 HI hk7 hk6 hs6 hkw5
  go_wp2_with (first
    | (go_at_call 21; refine (same_any _ _ _ _ _ rL _ (by unfold maxLen; omega) (by exact hs47.out) (by exact hs67.out)).mono ?_; rintro e w8 ⟨rfl, hk8⟩)
    | (go_at_call 17; refine (lives_any _).mono ?_; rintro e w9 ⟨rfl, hk9⟩))
  go_ret
  exact ⟨rfl, (hkw7.trans' hk8).trans' hk9⟩
end Go.Proofs.Ytgkhenplbljbbaa
