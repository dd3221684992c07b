


/- The walk of DriversCheck. The slices read as lists; the numbers are bytes. -/
import Derived.Test.YtgkhenplbljbbaaChecked
import Derived.Deep.RegionHeld3
import Derived.Deep.DrawnRows
import Derived.Deep.DeepCutAuto
import Derived.Deep.LoopGhost
import Derived.Outline
import Derived.Handy
import Derived.Deep.RegionLaw
import Derived.OwnWalk
import Derived.Test.YtgkhenplbljbbaaFc
import Derived.Test.YtgkhenplbljbbaaFf
import Derived.Test.YtgkhenplbljbbaaWi
set_option linter.unusedVariables false
set_option linter.unusedSimpArgs false
set_option linter.unusedSectionVars false
namespace Go.Proofs.Ytgkhenplbljbbaa
open Go.RowKit Go.Maps
attribute [local go_sem ↓] Go.wp_at_zero Go.wp_at_succ

def letterS (k : Nat) : ByteArray := match k with
  | 0 => ⟨#[97]⟩ | 1 => ⟨#[98]⟩ | 2 => ⟨#[99]⟩ | 3 => ⟨#[100]⟩ | 4 => ⟨#[101]⟩ | 5 => ⟨#[102]⟩ | 6 => ⟨#[103]⟩ | _ => ⟨#[104]⟩
theorem run_letter (k : Nat) (hk : k < 8) : ∀ W : World, (Instr.slice 9 (.string ⟨#[97, 98, 99, 100, 101, 102, 103, 104]⟩) (some (.int .i64 (k : Int))) (some (.int .i64 ((k : Int) + 1))) none).run Try.prog W = .ok (.string (letterS k)) W := by
  intro W
  rcases (by omega : k = 0 ∨ k = 1 ∨ k = 2 ∨ k = 3 ∨ k = 4 ∨ k = 5 ∨ k = 6 ∨ k = 7) with rfl | rfl | rfl | rfl | rfl | rfl | rfl | rfl <;> kernel_rfl
theorem letter_size (k : Nat) : (letterS k).size = 1 := by
  unfold letterS; split <;> rfl

set_option maxRecDepth 1000000 in
set_option maxHeartbeats 8000000 in
theorem dcheck_walk (A : Option Addr) (n c : Nat) (x : List Drv) (t : Int) (ids : Int) (B : Option Addr) (m cm : Nat) (y : List Cp) (w : World) (hn : n ≤ maxLen) (hx : Sl drvT w (low w.heap.size) A n x) (ht0 : 0 ≤ t) (ht1 : t < 256)
    (hi0 : 0 ≤ ids) (hi1' : ids < 256) (hm : m ≤ maxLen) (hy : Sl cpT w (low w.heap.size) B m y) :
    Calls Try.prog 8 #[.slice A n c, .int .u8 t, .agg #[.int .u8 ids, .slice B m cm]] w fun e w' => e = .returned (.bool true) ∧ Kept w w' := by
  obtain ⟨i1, hi1, hz10, hz11, hz12⟩ := info_parts info41
  by_cases h10 : 10 < n
  · have h10' : (10 : Int) < (n : Int) := by omega
    go_enter Try.func8, Try.ntmps8
    go_wp2_with (first | (go_at_call 17; refine (lives_any _).mono ?_; rintro e w9 ⟨rfl, hk9⟩))
    go_ret
    exact ⟨rfl, Below.trans (by go_grown) (hk9.mono (by simp only [World.size_alloc]; omega))⟩
  have h10' : (n : Int) ≤ 10 := by omega
  obtain ⟨q, hq⟩ : ∃ q : Nat, t % 8 = (q : Int) := ⟨(t % 8).toNat, by omega⟩
  have hq7 : q < 8 := by omega
  have hm6 : t % 8 < 8 := by omega
  have hm7 : 0 ≤ t % 8 := by omega
  have Hq := hide hq
  clear hq
  go_enter Try.func8, Try.ntmps8
  go_upto_region 4 with (fail)
  refine wp_at (fun W => W.heap[w.heap.size]? = some (.cells #[.int .u8 ids, .slice B m cm] 37 (0, 0)) ∧ Kept w W) ⟨heap_at _ rfl, by go_grown⟩ (fun W hW => ?_)
  obtain ⟨HY, hkW⟩ := hW
  have hxW := hx.kept hkW
  have hyW := hide (hy.kept hkW)
  have HkW := hide hkW
  clear hx hy hkW
  generalize w.heap.size = Y at HY
  go_wp2_with fail
  go_loopg [7, 8] (1 + q) (fun g s7 s8 wr => ∃ (i : Nat) (lst : List Drv), i + g = 1 + q ∧ s8 = .int .i64 i ∧ Own drvT 41 W.heap.size wr s7 lst.length lst ∧ lst.length ≤ 10 * i ∧ Kept W wr)
  case atStart => exact ⟨0, [], by omega, rfl, Own.nil _ _ _ _, by simp, Below.refl _ _⟩
  case round =>
    obtain ⟨i, lst, hi, rfl, hown, hlen, hkw⟩ := hrel
    have Hi := hide hi
    clear hi
    by_cases hlt : i < 1 + q
    · have hlt' : (i : Int) < 1 + t % 8 := by have := Hq.out; omega
      have hii : (0 : Int) ≤ (i : Int) := by omega
      have hi8 : i < 8 := by omega
      go_wp2_with fail
      obtain ⟨wo, rfl⟩ : ∃ wo : World, wo = wr := ⟨_, rfl⟩
      obtain ⟨go, rfl⟩ : ∃ g : Nat, g = gk := ⟨_, rfl⟩
      have Hown := hide hown
      have Hlen := hide hlen
      have Hkw := hide hkw
      clear hown hlen hkw
      go_loopg [7, 9] n (fun g s7 s9 wr => ∃ (k : Nat) (lst : List Drv), k + g = n ∧ s9 = .int .i64 k ∧ Own drvT 41 W.heap.size wr s7 lst.length lst ∧ lst.length ≤ 10 * i + k ∧ Kept W wr)
      case atStart => exact ⟨0, lst, by omega, rfl, Hown.out, by have := Hlen.out; omega, Hkw.out⟩
      case round =>
        clear Hown Hlen Hkw
        obtain ⟨k, lst, hk, rfl, hown0, hlen0, hkw⟩ := hrel
        have Hk := hide hk
        have hown := hide hown0
        have hlen := hide hlen0
        clear hk hown0
        by_cases hlk : k < n
        · obtain ⟨d, b, off, A', c', hd, rfl, hbw, hbr, hc1, hc2, hns, hd0, hd1, hrs⟩ := drv_at hxW hkw hlk
          clear hd
          have hlk' : (k : Int) < (n : Int) := by omega
          have hk0 : (0 : Int) ≤ (k : Int) := by omega
          have hl80 : lst.length < 100 := by omega
          clear hlen0
          go_upto_region 11 with (fail)
          refine wp_at (fun W3 => W3.heap[wr.heap.size]? = some (.cells #[.string d.name, .slice A' d.rules.length c'] 41 (0, 0)) ∧ Kept wr W3) ⟨heap_at _ rfl, by go_grown⟩ (fun W3 hW3 => ?_)
          obtain ⟨HX3, hk3⟩ := hW3
          have hX : wr.heap.size ≤ wr.heap.size := Nat.le_refl _
          generalize hXe : wr.heap.size = X at HX3 hX
          have hX2 : wr.heap.size ≤ X := by omega
          clear hXe hX hd0 hd1
          have y0 := cell_heap HX3 (o := 0) rfl
          have y1 := cell_heap HX3 (o := 1) rfl
          by_cases hi1c : 0 < i
          · have hi1c' : (0 : Int) < (i : Int) := by omega
            by_cases h0 : 0 < d.name.size
            · have h0' : (0 : Int) < (d.name.size : Int) := by omega
              by_cases h30 : d.name.size < 30
              · have h30' : (d.name.size : Int) < 30 := by omega
                have hi8' : (i : Int) < 8 := by omega
                have hlet := run_letter i hi8
                have hwr : IntKind.i64.wrap ((i : Int) + 1) = (i : Int) + 1 := by rw [IntKind.wrap_i64]; omega
                have hlsz := letter_size i
                have hns2 : ¬ 9223372036854775807 < d.name.size + 1 := by omega
                go_upto_region 12 with (fail)
                have z0 := frozen_heap HX3 (o := 0)
                have hXl := heap_lt HX3
                refine wp_region_any (by kernel_rfl) ?_
                change wpAny _ _ _ _ _ _ _ (World.drew _)
                refine wpAny_take (i := 0) (v := ?_) rfl (by kernel_rfl) (by kernel_rfl) (by kernel_rfl) (fun _ _ _ h => h) (Or.inl ⟨by kernel_rfl, ?_⟩) ?_
                rotate_left
                · intro w'
                  first | (go_simp; done) | (go_simp; with_reducible rfl)
                try simp only [Act.put, List.getElem_toArray, List.getElem_cons_zero, List.getElem_cons_succ, List.setIfInBounds_toArray, List.set_cons_zero, List.set_cons_succ]
                refine wpAny_take (i := 2) (v := ?_) rfl (by kernel_rfl) (by kernel_rfl) (by kernel_rfl) (fun _ _ _ h => h) (Or.inl ⟨by kernel_rfl, ?_⟩) ?_
                rotate_left
                · intro w'
                  first | (go_simp; done) | (go_simp; with_reducible rfl)
                try simp only [Act.put, List.getElem_toArray, List.getElem_cons_zero, List.getElem_cons_succ, List.setIfInBounds_toArray, List.set_cons_zero, List.set_cons_succ]
                refine wpAny_take (i := 3) (v := ?_) rfl (by kernel_rfl) (by kernel_rfl) (by kernel_rfl) (fun _ _ _ h => h) (Or.inl ⟨by kernel_rfl, ?_⟩) ?_
                rotate_left
                · intro w'
                  first | (go_simp; done) | (go_simp; with_reducible rfl)
                try simp only [Act.put, List.getElem_toArray, List.getElem_cons_zero, List.getElem_cons_succ, List.setIfInBounds_toArray, List.set_cons_zero, List.set_cons_succ]
                refine wpAny_take (i := 4) (v := ?_) rfl (by kernel_rfl) (by kernel_rfl) (by kernel_rfl) (fun _ _ _ h => h) (Or.inl ⟨by kernel_rfl, ?_⟩) ?_
                rotate_left
                · intro w'
                  first | (go_simp; done) | (go_simp; with_reducible rfl)
                try simp only [Act.put, List.getElem_toArray, List.getElem_cons_zero, List.getElem_cons_succ, List.setIfInBounds_toArray, List.set_cons_zero, List.set_cons_succ]
                refine wpAny_take (i := 5) (v := ?_) rfl (by kernel_rfl) (by kernel_rfl) (by kernel_rfl) (fun _ _ _ h => h) (Or.inl ⟨by kernel_rfl, ?_⟩) ?_
                rotate_left
                · intro w'
                  first | (go_simp; done) | (go_simp; with_reducible rfl)
                try simp only [Act.put, List.getElem_toArray, List.getElem_cons_zero, List.getElem_cons_succ, List.setIfInBounds_toArray, List.set_cons_zero, List.set_cons_succ]
                refine wpAny_ready (rs := [1]) (by kernel_rfl) (by simp) ?_
                refine AllReady.cons rfl (fun K hK => ?_) AllReady.nil
                go_simp
                refine hK _ _ ?_
                clear hK K
                try simp only [Act.put, List.getElem_toArray, List.getElem_cons_zero, List.getElem_cons_succ, List.setIfInBounds_toArray, List.set_cons_zero, List.set_cons_succ]
                refine wpAny_take (i := 6) (v := ?_) rfl (by kernel_rfl) (by kernel_rfl) (by kernel_rfl) (fun _ _ _ h => h) (Or.inl ⟨by kernel_rfl, ?_⟩) ?_
                rotate_left
                · intro w'
                  first | (go_simp; done) | (go_simp; with_reducible rfl)
                try simp only [Act.put, List.getElem_toArray, List.getElem_cons_zero, List.getElem_cons_succ, List.setIfInBounds_toArray, List.set_cons_zero, List.set_cons_succ]
                refine wpAny_take (i := 7) (v := ?_) rfl (by kernel_rfl) (by kernel_rfl) (by kernel_rfl) (fun _ _ _ h => h) (Or.inl ⟨by kernel_rfl, ?_⟩) ?_
                rotate_left
                · intro w'
                  first | (go_simp; done) | (go_simp; with_reducible rfl)
                try simp only [Act.put, List.getElem_toArray, List.getElem_cons_zero, List.getElem_cons_succ, List.setIfInBounds_toArray, List.set_cons_zero, List.set_cons_succ]
                refine wpAny_ready (rs := [8]) (by kernel_rfl) (by simp) ?_
                refine AllReady.cons rfl (fun K hK => ?_) AllReady.nil
                go_simp
                refine hK _ _ ?_
                clear hK K
                try simp only [Act.put, List.getElem_toArray, List.getElem_cons_zero, List.getElem_cons_succ, List.setIfInBounds_toArray, List.set_cons_zero, List.set_cons_succ]
                refine wpAny_done (by kernel_rfl) ?_ _
                clear hlet z0
                have HX4 := heap_drew (heap_store (i := 0) HX3 (Value.string (d.name ++ letterS i)))
                have hk4 : Kept wr (W3.setCell ⟨X, 0, none⟩ (Value.string (d.name ++ letterS i))).drew := (hk3.setCell hX2 _).drew
                have hnm : (d.name ++ letterS i).size ≤ maxLen := by rw [ByteArray.size_append]; unfold maxLen; omega
                clear y0 y1 HX3 hk3 hlsz hwr hns2 hXl
                have HX3 := HX4
                clear HX4
                generalize d.name ++ letterS i = nm at *
                generalize (W3.setCell ⟨X, 0, none⟩ (Value.string nm)).drew = W4 at *
                have hk3 := hk4
                clear hk4
                have hX3' : (#[Value.string d.name, .slice A' d.rules.length c'].setIfInBounds 0 (Value.string nm)) = #[Value.string nm, .slice A' d.rules.length c'] := rfl
                rw [hX3'] at HX3
                clear hX3'
                have Hrel : Hid (∀ (W' : World) (v : Value), Kept W W' → (∀ g, v.ownBlock = some g → W.heap.size ≤ g) → drvT.rel W' (apart W' v) ⟨nm, d.rules⟩ [.string (nm), .slice A' d.rules.length c']) :=
                  fun W' v hk hv => ⟨A', c', rfl, hc1, hc2, hnm, sl_apart hrs ⟨(bcell hk).1, hk⟩ (Nat.le_refl _) hv⟩
                have hkW3 : Kept W W4 := hkw.trans' hk3
                have x0 := cell_heap HX3 (o := 0) rfl
                have x1 := cell_heap HX3 (o := 1) rfl
                have hXl := heap_lt HX3
                clear HX3
                go_wp2_with (at_builtin; refine wpList_append_el (T := drvT) rfl (.tmp 70) (.tmp 72) 24 rfl W.heap.size 41 i1 _ 40 Try.underlying24 hi1 hz10 hz11 hz12 rfl (by decide) _ lst.length lst (by rfl) ((hown.out.kept hk3).alloc _) _ _ _ ⟨nm, d.rules⟩ (by rfl) (heap_at _ rfl) (Hrel.out _ _ (Below.alloc hkW3 hkW3.size _) (fun g hg => (hown.out.lt hg).1)) (by simp [Value.oneCell']) (by unfold maxLen; omega) (by omega) (by have := hkW3.size; simp; omega) ?_; intro g cap w4 hown4 hg4 hb4 hat4 hlt4)
                go_roundg (gk - 1)
                case measure => have := Hk.out; omega
                case rel => exact ⟨k + 1, lst ++ [⟨nm, d.rules⟩], by have := Hk.out; omega, by go_num, by rw [List.length_append]; exact hown4, by rw [List.length_append]; have := hlen.out; simp only [List.length_cons, List.length_nil]; omega, Below.trans (Below.alloc hkW3 hkW3.size _) hb4⟩
              · have h30' : (30 : Int) ≤ (d.name.size : Int) := by omega
                go_upto_region 13 with (fail)
                clear y0 y1
                have Hrel : Hid (∀ (W' : World) (v : Value), Kept W W' → (∀ g, v.ownBlock = some g → W.heap.size ≤ g) → drvT.rel W' (apart W' v) ⟨d.name, d.rules⟩ [.string (d.name), .slice A' d.rules.length c']) :=
                  fun W' v hk hv => ⟨A', c', rfl, hc1, hc2, hns, sl_apart hrs ⟨(bcell hk).1, hk⟩ (Nat.le_refl _) hv⟩
                have hkW3 : Kept W W3 := hkw.trans' hk3
                have x0 := cell_heap HX3 (o := 0) rfl
                have x1 := cell_heap HX3 (o := 1) rfl
                have hXl := heap_lt HX3
                clear HX3
                go_wp2_with (at_builtin; refine wpList_append_el (T := drvT) rfl (.tmp 70) (.tmp 72) 24 rfl W.heap.size 41 i1 _ 40 Try.underlying24 hi1 hz10 hz11 hz12 rfl (by decide) _ lst.length lst (by rfl) ((hown.out.kept hk3).alloc _) _ _ _ ⟨d.name, d.rules⟩ (by rfl) (heap_at _ rfl) (Hrel.out _ _ (Below.alloc hkW3 hkW3.size _) (fun g hg => (hown.out.lt hg).1)) (by simp [Value.oneCell']) (by unfold maxLen; omega) (by omega) (by have := hkW3.size; simp; omega) ?_; intro g cap w4 hown4 hg4 hb4 hat4 hlt4)
                go_roundg (gk - 1)
                case measure => have := Hk.out; omega
                case rel => exact ⟨k + 1, lst ++ [⟨d.name, d.rules⟩], by have := Hk.out; omega, by go_num, by rw [List.length_append]; exact hown4, by rw [List.length_append]; have := hlen.out; simp only [List.length_cons, List.length_nil]; omega, Below.trans (Below.alloc hkW3 hkW3.size _) hb4⟩
            · have h0' : (d.name.size : Int) ≤ 0 := by omega
              go_upto_region 13 with (fail)
              clear y0 y1
              have Hrel : Hid (∀ (W' : World) (v : Value), Kept W W' → (∀ g, v.ownBlock = some g → W.heap.size ≤ g) → drvT.rel W' (apart W' v) ⟨d.name, d.rules⟩ [.string (d.name), .slice A' d.rules.length c']) :=
                fun W' v hk hv => ⟨A', c', rfl, hc1, hc2, hns, sl_apart hrs ⟨(bcell hk).1, hk⟩ (Nat.le_refl _) hv⟩
              have hkW3 : Kept W W3 := hkw.trans' hk3
              have x0 := cell_heap HX3 (o := 0) rfl
              have x1 := cell_heap HX3 (o := 1) rfl
              have hXl := heap_lt HX3
              clear HX3
              go_wp2_with (at_builtin; refine wpList_append_el (T := drvT) rfl (.tmp 70) (.tmp 72) 24 rfl W.heap.size 41 i1 _ 40 Try.underlying24 hi1 hz10 hz11 hz12 rfl (by decide) _ lst.length lst (by rfl) ((hown.out.kept hk3).alloc _) _ _ _ ⟨d.name, d.rules⟩ (by rfl) (heap_at _ rfl) (Hrel.out _ _ (Below.alloc hkW3 hkW3.size _) (fun g hg => (hown.out.lt hg).1)) (by simp [Value.oneCell']) (by unfold maxLen; omega) (by omega) (by have := hkW3.size; simp; omega) ?_; intro g cap w4 hown4 hg4 hb4 hat4 hlt4)
              go_roundg (gk - 1)
              case measure => have := Hk.out; omega
              case rel => exact ⟨k + 1, lst ++ [⟨d.name, d.rules⟩], by have := Hk.out; omega, by go_num, by rw [List.length_append]; exact hown4, by rw [List.length_append]; have := hlen.out; simp only [List.length_cons, List.length_nil]; omega, Below.trans (Below.alloc hkW3 hkW3.size _) hb4⟩
          · have hi1c' : (i : Int) ≤ 0 := by omega
            go_upto_region 13 with (fail)
            clear y0 y1
            have Hrel : Hid (∀ (W' : World) (v : Value), Kept W W' → (∀ g, v.ownBlock = some g → W.heap.size ≤ g) → drvT.rel W' (apart W' v) ⟨d.name, d.rules⟩ [.string (d.name), .slice A' d.rules.length c']) :=
              fun W' v hk hv => ⟨A', c', rfl, hc1, hc2, hns, sl_apart hrs ⟨(bcell hk).1, hk⟩ (Nat.le_refl _) hv⟩
            have hkW3 : Kept W W3 := hkw.trans' hk3
            have x0 := cell_heap HX3 (o := 0) rfl
            have x1 := cell_heap HX3 (o := 1) rfl
            have hXl := heap_lt HX3
            clear HX3
            go_wp2_with (at_builtin; refine wpList_append_el (T := drvT) rfl (.tmp 70) (.tmp 72) 24 rfl W.heap.size 41 i1 _ 40 Try.underlying24 hi1 hz10 hz11 hz12 rfl (by decide) _ lst.length lst (by rfl) ((hown.out.kept hk3).alloc _) _ _ _ ⟨d.name, d.rules⟩ (by rfl) (heap_at _ rfl) (Hrel.out _ _ (Below.alloc hkW3 hkW3.size _) (fun g hg => (hown.out.lt hg).1)) (by simp [Value.oneCell']) (by unfold maxLen; omega) (by omega) (by have := hkW3.size; simp; omega) ?_; intro g cap w4 hown4 hg4 hb4 hat4 hlt4)
            go_roundg (gk - 1)
            case measure => have := Hk.out; omega
            case rel => exact ⟨k + 1, lst ++ [⟨d.name, d.rules⟩], by have := Hk.out; omega, by go_num, by rw [List.length_append]; exact hown4, by rw [List.length_append]; have := hlen.out; simp only [List.length_cons, List.length_nil]; omega, Below.trans (Below.alloc hkW3 hkW3.size _) hb4⟩
        · have hlk' : (n : Int) ≤ (k : Int) := by omega
          go_wp2_with fail
          go_roundg (go - 1)
          case measure => have := Hi.out; omega
          case rel => exact ⟨i + 1, lst, by have := Hi.out; omega, by go_num, hown.out, by have := Hk.out; have := hlen.out; omega, hkw⟩
    · have hlt' : 1 + t % 8 ≤ (i : Int) := by have := Hq.out; omega
      have hl80 : lst.length < 100 := by have := Hi.out; omega
      obtain ⟨A7, c7, rfl, hv1, hv2⟩ := hown.isSlice
      have hsl := hown.sl
      clear hown hlen hlt Hi
      go_wp2_with fail
      clear hlt'
      generalize hll : lst.length = ll at *
      have Hll := hide hll
      clear hll
      have hlm : ll ≤ maxLen := by unfold maxLen; omega
      obtain ⟨wo, rfl⟩ : ∃ wo : World, wo = wr := ⟨_, rfl⟩
      go_loopg [11, 12] ll (fun g s11 s12 wr => ∃ k : Nat, k + g = ll ∧ s12 = .int .i64 k ∧ s11 = .int .i64 (errTo lst k) ∧ Kept wo wr)
      case atStart => exact ⟨0, by omega, rfl, rfl, Below.refl _ _⟩
      case round =>
        obtain ⟨k, hk, rfl, rfl, hko⟩ := hrel
        have Hk := hide hk
        clear hk
        by_cases hlk : k < ll
        · have hlk' : (k : Int) < (ll : Int) := by omega
          have hk0 : (0 : Int) ≤ (k : Int) := by omega
          obtain ⟨d, hd⟩ : ∃ d, lst[k]? = some d := ⟨_, List.getElem?_eq_getElem (by rw [Hll.out]; exact hlk)⟩
          have hslr := hsl.kept hko
          by_cases he : errTo lst k = 0
          · have Hen := hide (errTo_yes hd he)
            have hcall := fun w' h => lcheck_any A7 ll c7 lst k d w' hlm h hlk hd
            clear hd
            rw [he]
            go_wp2_with (go_at_call 28; refine (hcall _ (by exact hslr)).mono ?_; rintro e w8 ⟨rfl, hk8⟩)
            go_roundg (gk - 1)
            case measure => have := Hk.out; omega
            case rel => exact ⟨k + 1, by have := Hk.out; omega, by go_num, by rw [Hen.out], hko.trans' hk8⟩
          · have Hen := hide (errTo_no he)
            generalize errTo lst k = z at *
            have hz2 : (z == 0) = false := by simpa using he
            clear hd
            go_wp2_with fail
            go_roundg (gk - 1)
            case measure => have := Hk.out; omega
            case rel => exact ⟨k + 1, by have := Hk.out; omega, by go_num, by rw [Hen.out], hko⟩
        · have hkl : k = ll := by have := Hk.out; omega
          have hlk' : (ll : Int) ≤ (k : Int) := by omega
          rw [hkl]
          rw [hkl] at hlk'
          clear hkl hlk Hk
          go_wp2_with fail
          have Hwant : Hid (wantTo lst (errTo lst ll) ll = checkS lst) := by have := want_eq lst; rw [Hll.out] at this; exact this
          generalize errTo lst ll = z0 at *
          have hsl2 := hsl.kept hko
          have hkw2 := hkw.trans' hko
          clear hsl hkw hko hlk'
          obtain ⟨wp, rfl⟩ : ∃ wp : World, wp = wr := ⟨_, rfl⟩
          go_loopg [11, 13] ll (fun g s11 s13 wr => ∃ k : Nat, k + g = ll ∧ s13 = .int .i64 k ∧ s11 = .int .i64 (wantTo lst z0 k) ∧ wp = wr)
          case atStart => exact ⟨0, by omega, rfl, rfl, rfl⟩
          case round =>
            obtain ⟨k, hk, rfl, rfl, rfl⟩ := hrel
            have Hk := hide hk
            clear hk
            by_cases hlk : k < ll
            · have hlk' : (k : Int) < (ll : Int) := by omega
              have hk0 : (0 : Int) ≤ (k : Int) := by omega
              obtain ⟨d, b, off, A', c', hd, rfl, hbw, hbr, hc1, hc2, hns, hd0, hd1, hrs⟩ := drv_at hsl2 (Below.refl _ _) hlk
              by_cases h32 : 32 < d.rules.length
              · have h32' : (32 : Int) < (d.rules.length : Int) := by omega
                have Hw := hide (wantTo_yes (z := z0) hd (.inl h32))
                clear hd
                go_wp2_with fail
                go_roundg (gk - 1)
                case measure => have := Hk.out; omega
                case rel => exact ⟨k + 1, by have := Hk.out; omega, by go_num, by rw [Hw.out], rfl⟩
              · have h32' : (d.rules.length : Int) ≤ 32 := by omega
                by_cases h64 : 64 < ll
                · have h64' : (64 : Int) < (ll : Int) := by omega
                  have Hw := hide (wantTo_yes (z := z0) hd (.inr (by rw [Hll.out]; exact h64)))
                  clear hd
                  go_wp2_with fail
                  go_roundg (gk - 1)
                  case measure => have := Hk.out; omega
                  case rel => exact ⟨k + 1, by have := Hk.out; omega, by go_num, by rw [Hw.out], rfl⟩
                · have h64' : (ll : Int) ≤ 64 := by omega
                  have Hw := hide (wantTo_no (z := z0) hd h32 (by rw [Hll.out]; exact h64))
                  clear hd
                  go_wp2_with fail
                  go_roundg (gk - 1)
                  case measure => have := Hk.out; omega
                  case rel => exact ⟨k + 1, by have := Hk.out; omega, by go_num, by rw [Hw.out], rfl⟩
            · have hkl : k = ll := by have := Hk.out; omega
              have hlk' : (ll : Int) ≤ (k : Int) := by omega
              rw [hkl]
              rw [hkl] at hlk'
              clear hkl hlk Hk
              rw [Hwant.out]
              go_upto_region 25 with (fail)
              refine dchkM Y ids B m cm y A7 ll c7 lst w wp hlm (heap_kept hkw2 HY) hi0 hi1' hm (hyW.out.kept hkw2) hsl2 (HkW.out.trans' hkw2) _ ?_
              assumption
end Go.Proofs.Ytgkhenplbljbbaa
