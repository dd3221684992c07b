/- EncodeInquiry. -/
import Derived.Test.YtfojemocffelhaaDoorChecked
import Derived.Deep.RegionHeld3
import Derived.Deep.DrawnRows
import Derived.Deep.DeepCutAuto
import Derived.Deep.LoopGhost
import Derived.Outline
import Derived.Handy
import Derived.OwnWalk
import Derived.IntWalk
import Derived.Test.YtfojemocffelhaaDoorNa
set_option linter.unusedVariables false
set_option linter.unusedSimpArgs false
set_option linter.unusedSectionVars false
/- EncodeInquiry. -/
namespace Go.Proofs.YtfojemocffelhaaDoor
open Go.RowKit Go.Shelf
attribute [local go_sem ↓] Go.wp_at_zero Go.wp_at_succ

theorem rep_size (m : Nat) : (⟨(List.replicate m (32 : UInt8)).toArray⟩ : ByteArray).size = m := by simp [ByteArray.size]
theorem ix_0 (a b c : ByteArray) (W : World) : (Instr.index 79 (.agg #[.string a, .string b, .string c]) (.int .i64 0)).run Tryd.prog W = .ok (.string a) W := by
  simp [Instr.index, asIntOf, run_underlying Tryd.underlying79, Tryd.sizeOf9, Tryd.isAgg9, part, go_sem]
theorem ix_1 (a b c : ByteArray) (W : World) : (Instr.index 79 (.agg #[.string a, .string b, .string c]) (.int .i64 1)).run Tryd.prog W = .ok (.string b) W := by
  simp [Instr.index, asIntOf, run_underlying Tryd.underlying79, Tryd.sizeOf9, Tryd.isAgg9, part, go_sem]
theorem ix_2 (a b c : ByteArray) (W : World) : (Instr.index 79 (.agg #[.string a, .string b, .string c]) (.int .i64 2)).run Tryd.prog W = .ok (.string c) W := by
  simp [Instr.index, asIntOf, run_underlying Tryd.underlying79, Tryd.sizeOf9, Tryd.isAgg9, part, go_sem]
set_option maxRecDepth 100000 in
set_option maxHeartbeats 4000000 in
theorem einq_long (v p r : ByteArray) (rem : Bool) (w : World) (h : 8 < v.size ∨ 16 < p.size ∨ 4 < r.size) :
    Calls Tryd.prog 21 #[.agg #[.string v, .string p, .string r, .bool rem]] w fun e w' => e = .returned (.tuple #[.slice none 0 0, .int .i64 3]) ∧ Kept w w' := by
  replace h := Lib.hid h
  go_enter Tryd.func21, Tryd.ntmps21
  go_wp2_with fail
  refine wp_name (B := w.heap.size) (w0 := w) (by go_grown) (fun W hcW hfW hz hkW => ?_)
  simp only [World.size_alloc] at hz
  go_loopg [20] 3 (fun g s20 wr => ∃ (k : Nat) (z : Int), k + g = 3 ∧ z = k ∧ s20 = .int .i64 z ∧ (0 < k → v.size ≤ 8) ∧ (1 < k → p.size ≤ 16) ∧ (2 < k → r.size ≤ 4) ∧ wr = W)
  case atStart => exact ⟨0, 0, by omega, rfl, rfl, by omega, by omega, by omega, rfl⟩
  case round =>
    obtain ⟨k, z, hk, hz0, rfl, hv, hp, hr, rfl⟩ := hrel
    by_cases h0 : k = 0
    · subst h0
      obtain rfl : z = 0 := by omega
      clear hz0
      have hix := ix_0 v p r
      by_cases hs : 8 < v.size
      · have hs' : (8 : Int) < (v.size : Int) := by omega
        go_wp2_with fail
        go_ret2
        exact ⟨rfl, hkW⟩
      · have hs' : (v.size : Int) ≤ 8 := by omega
        go_wp2_with fail
        go_roundg (gk - 1)
        case measure => omega
        case rel => exact ⟨0 + 1, 0 + 1, by omega, by omega, by go_num, by omega, by omega, by omega, rfl⟩
    · skip
      by_cases h1 : k = 1
      · subst h1
        obtain rfl : z = 1 := by omega
        clear hz0
        have hix := ix_1 v p r
        by_cases hs : 16 < p.size
        · have hs' : (16 : Int) < (p.size : Int) := by omega
          go_wp2_with fail
          go_ret2
          exact ⟨rfl, hkW⟩
        · have hs' : (p.size : Int) ≤ 16 := by omega
          go_wp2_with fail
          go_roundg (gk - 1)
          case measure => omega
          case rel => exact ⟨1 + 1, 1 + 1, by omega, by omega, by go_num, by omega, by omega, by omega, rfl⟩
      · skip
        by_cases h2 : k = 2
        · subst h2
          obtain rfl : z = 2 := by omega
          clear hz0
          have hix := ix_2 v p r
          by_cases hs : 4 < r.size
          · have hs' : (4 : Int) < (r.size : Int) := by omega
            go_wp2_with fail
            go_ret2
            exact ⟨rfl, hkW⟩
          · have hs' : (r.size : Int) ≤ 4 := by omega
            go_wp2_with fail
            go_roundg (gk - 1)
            case measure => omega
            case rel => exact ⟨2 + 1, 2 + 1, by omega, by omega, by go_num, by omega, by omega, by omega, rfl⟩
        · exact absurd h.out (by omega)

/-- the bytes behind k texts -/
def inqK (v p r : ByteArray) (rem : Bool) : Nat → List UInt8
  | 0 => [0, if rem then 128 else 0, 4, 2, 31, 0, 0, 0]
  | 1 => [0, if rem then 128 else 0, 4, 2, 31, 0, 0, 0] ++ padL v.data.toList 8
  | 2 => [0, if rem then 128 else 0, 4, 2, 31, 0, 0, 0] ++ padL v.data.toList 8 ++ padL p.data.toList 16
  | _ => inqL v.data.toList p.data.toList r.data.toList rem
def lenK : Nat → Nat
  | 0 => 8
  | 1 => 16
  | 2 => 32
  | _ => 36
/-- what EncodeInquiry answers to texts that are short enough -/
def EinqPost (v p r : ByteArray) (rem : Bool) (w : World) (e : Ending) (w' : World) : Prop :=
  ((rightL v.data.toList && rightL p.data.toList && rightL r.data.toList) = false ∧ e = .returned (.tuple #[.slice none 0 0, .int .i64 4]) ∧ Kept w w') ∨
  ((rightL v.data.toList && rightL p.data.toList && rightL r.data.toList) = true ∧ ∃ g, e = .returned (.tuple #[.slice (some ⟨g, 0, none⟩) 36 36, .int .i64 0]) ∧ w.heap.size ≤ g ∧ Bs w' g 0 (inqL v.data.toList p.data.toList r.data.toList rem) ∧ Kept w w')
theorem einq_l {v p r : ByteArray} {rem : Bool} {w w' : World} (h : (rightL v.data.toList && rightL p.data.toList && rightL r.data.toList) = false) (hk : Kept w w') :
    EinqPost v p r rem w (.returned (.tuple #[.slice none 0 0, .int .i64 4])) w' := .inl ⟨h, rfl, hk⟩
theorem row_bs {w : World} {base n : Nat} {v : Value} {l : List UInt8} (h : w.ownsRow base 5 1 v (n + 1) (u8C l)) : ∃ g cap, v = .slice (some ⟨g, 0, none⟩) (n + 1) cap ∧ base ≤ g ∧ n + 1 ≤ cap ∧ cap ≤ maxLen ∧ Bs w g 0 l := by
  rcases h.2 with ⟨_, h0⟩ | ⟨g, cap, cur, hv, hg, hh, h1, h2, _, _⟩
  · omega
  · refine ⟨g, cap, hv, hg, h1, h2, heap_lt hh, fun j x hx => ?_⟩
    have hc := h.cells (g := g) (by rw [hv]; rfl) j (.int .u8 (x.toNat : Int)) (by simp [u8C, hx])
    rw [← hc, Addr.add_mid]
set_option maxRecDepth 100000 in
set_option maxHeartbeats 8000000 in
theorem einq_any (v p r : ByteArray) (rem : Bool) (w : World) (hv8 : v.size ≤ 8) (hp16 : p.size ≤ 16) (hr4 : r.size ≤ 4) :
    Calls Tryd.prog 21 #[.agg #[.string v, .string p, .string r, .bool rem]] w (EinqPost v p r rem w) := by
  have hvI : (v.size : Int) ≤ 8 := by omega
  have hpI : (p.size : Int) ≤ 16 := by omega
  have hrI : (r.size : Int) ≤ 4 := by omega
  go_enter Tryd.func21, Tryd.ntmps21
  go_wp2_with fail
  refine wp_name (B := w.heap.size) (w0 := w) (by go_grown) (fun W hcW hfW hz hkW => ?_)
  simp only [World.size_alloc] at hz
  go_loopg [20] 3 (fun g s20 wr => ∃ (k : Nat) (z : Int), k + g = 3 ∧ z = k ∧ s20 = .int .i64 z ∧ wr = W)
  case atStart => exact ⟨0, 0, by omega, rfl, rfl, rfl⟩
  case round =>
    obtain ⟨k, z, hk, hz0, rfl, rfl⟩ := hrel
    by_cases h0 : k = 0
    · subst h0
      obtain rfl : z = 0 := by omega
      clear hz0
      have hix := ix_0 v p r
      go_wp2_with fail
      go_roundg (gk - 1)
      case measure => omega
      case rel => exact ⟨0 + 1, 0 + 1, by omega, by omega, by go_num, rfl⟩
    · skip
      by_cases h1 : k = 1
      · subst h1
        obtain rfl : z = 1 := by omega
        clear hz0
        have hix := ix_1 v p r
        go_wp2_with fail
        go_roundg (gk - 1)
        case measure => omega
        case rel => exact ⟨1 + 1, 1 + 1, by omega, by omega, by go_num, rfl⟩
      · skip
        by_cases h2 : k = 2
        · subst h2
          obtain rfl : z = 2 := by omega
          clear hz0
          have hix := ix_2 v p r
          go_wp2_with fail
          go_roundg (gk - 1)
          case measure => omega
          case rel => exact ⟨2 + 1, 2 + 1, by omega, by omega, by go_num, rfl⟩
        · have h3 : k = 3 := by omega
          subst h3
          obtain rfl : z = 3 := by omega
          clear hz0
          clear hk h0 h1 h2
          obtain ⟨W, rfl⟩ : ∃ W, W = wr := ⟨_, rfl⟩
          cases rem
          · go_wp2_with fail
            go_loopg [8, 37] 3 (fun g s8 s37 wr => ∃ (k : Nat) (z : Int), k + g = 3 ∧ z = k ∧ s37 = .int .i64 z ∧ wr.ownsRow W.heap.size 5 1 s8 (lenK k) (u8C (inqK v p r false k)) ∧ Below W.heap.size W wr ∧ (0 < k → rightL v.data.toList = true) ∧ (1 < k → rightL p.data.toList = true) ∧ (2 < k → rightL r.data.toList = true))
            case atStart =>
              refine ⟨0, 0, by omega, rfl, rfl, ⟨rfl, .inr ⟨W.heap.size, 8, _, by rw [hz]; rfl, Nat.le_refl _, heap_alloc_new W _, by decide, by decide, rfl, rfl⟩⟩, (Below.refl _ _).alloc (Nat.le_refl _) _, by omega, by omega, by omega⟩
            case round =>
              obtain ⟨k, z, hk, hz0, rfl, hown, hbw, h1, h2, h3⟩ := hrel
              have hsz := hbw.size
              by_cases h0 : k = 0
              · subst h0
                obtain rfl : z = 0 := by omega
                clear hz0 h1 h2 h3
                replace hown : wr.ownsRow W.heap.size 5 1 u8 8 (u8C (inqK v p r false 0)) := hown
                have hix := ix_0 v p r
                have hP : ∀ w, _ := fun w => printable_any v w
                have hF : ∀ w, _ := fun w => suffix_any v w (by omega)
                cases hp : prL v.data.toList
                · rw [hp] at hP
                  have hr : rightL v.data.toList = false := by simp [rightL, hp]
                  replace hr := Lib.hid hr
                  replace hp := Lib.hid hp
                  go_wp2_with (go_at_call 35; refine (hP _).mono ?_; rintro e w1 ⟨rfl, hk1⟩)
                  go_ret2
                  exact einq_l (by simp [hr.out]) (hkW.trans (hbw.trans (hk1.mono hsz)|>.mono (by omega)))
                · rw [hp] at hP
                  cases hf : Lib.hasSuffix v.data.toList [32]
                  · rw [hf] at hF
                    have hr : rightL v.data.toList = true := by simp [rightL, hp, hf]
                    replace hr := Lib.hid hr
                    replace hp := Lib.hid hp
                    replace hf := Lib.hid hf
                    go_upto_region 16 with (first
                      | (go_at_call 35; refine (hP _).mono ?_; rintro e w1 ⟨rfl, hk1⟩)
                      | (go_at_call 36; refine (hF _).mono ?_; rintro e w2 ⟨rfl, rfl⟩))
                    have hbq := hbw.trans (hk1.mono hsz)
                    obtain ⟨hcq, hfq⟩ := bcell hbq
                    have hsq : W.heap.size ≤ w1.heap.size := hbq.size
                    have hownD : w1.drew.ownsRow W.heap.size 5 1 u8 8 (u8C (inqK v p r false 0)) := own_kept (own_kept hown hk1) (Below.refl _ _).drew
                    clear hown
                    have hmw0 : IntKind.i64.wrap (8 - (v.size : Int)) = 8 - (v.size : Int) := IntWalk.i64_in _ ⟨by omega, by omega⟩
                    obtain ⟨m, hm, hmw⟩ : ∃ m : Nat, m = 8 - v.size ∧ IntKind.i64.wrap (8 - (v.size : Int)) = (m : Int) := by
                      refine ⟨8 - v.size, rfl, hmw0.trans ?_⟩
                      clear hmw0
                      omega
                    clear hmw0
                    have hmn : 8 + v.size + m = 16 := by omega
                    have hml : inqK v p r false 0 ++ v.data.toList ++ List.replicate m 32 = inqK v p r false (0 + 1) := by
                      rw [hm]
                      simp [inqK, inqL, padL, List.append_assoc]
                    have hm100 : m ≤ 100 := by omega
                    have hs100 : v.size ≤ 100 := by omega
                    replace hm := Lib.hid hm
                    replace hmn := Lib.hid hmn
                    replace hml := Lib.hid hml
                    refine wp_region_held_drew (S := fun w' => (∀ b o, b < W.heap.size → w'.cell? ⟨b, o, none⟩ = W.cell? ⟨b, o, none⟩) ∧ Below W.heap.size W w') (by kernel_rfl) ⟨hcq, hbq.drew⟩ (fun hS => ?_)
                    refine wpAnyH_take (i := 0) (v := ?_) rfl (by kernel_rfl) (by kernel_rfl) (by kernel_rfl) (fun _ _ _ h => h) (Or.inl ⟨by kernel_rfl, ?_⟩) hS ?_
                    rotate_left
                    · intro w' hS'
                      have hq := hS'.1
                      have hq2 := hS'.2
                      clear hS'
                      first | (go_simp; done) | (go_simp; with_reducible rfl)
                    try simp only [Act.put, List.getElem_toArray, List.getElem_cons_zero, List.getElem_cons_succ, List.setIfInBounds_toArray, List.set_cons_zero, List.set_cons_succ]
                    refine wpAnyH_take (i := 1) (v := ?_) rfl (by kernel_rfl) (by kernel_rfl) (by kernel_rfl) (fun _ _ _ h => h) (Or.inl ⟨by kernel_rfl, ?_⟩) hS ?_
                    rotate_left
                    · intro w' hS'
                      have hq := hS'.1
                      have hq2 := hS'.2
                      clear hS'
                      first | (go_simp; done) | (go_simp; with_reducible rfl)
                    try simp only [Act.put, List.getElem_toArray, List.getElem_cons_zero, List.getElem_cons_succ, List.setIfInBounds_toArray, List.set_cons_zero, List.set_cons_succ]
                    refine wpAnyH_take (i := 3) (v := ?_) rfl (by kernel_rfl) (by kernel_rfl) (by kernel_rfl) (fun _ _ _ h => h) (Or.inl ⟨by kernel_rfl, ?_⟩) hS ?_
                    rotate_left
                    · intro w' hS'
                      have hq := hS'.1
                      have hq2 := hS'.2
                      clear hS'
                      first | (go_simp; done) | (go_simp; with_reducible rfl)
                    try simp only [Act.put, List.getElem_toArray, List.getElem_cons_zero, List.getElem_cons_succ, List.setIfInBounds_toArray, List.set_cons_zero, List.set_cons_succ]
                    refine wpAnyH_take (i := 4) (v := ?_) rfl (by kernel_rfl) (by kernel_rfl) (by kernel_rfl) (fun _ _ _ h => h) (Or.inl ⟨by kernel_rfl, ?_⟩) hS ?_
                    rotate_left
                    · intro w' hS'
                      have hq := hS'.1
                      have hq2 := hS'.2
                      clear hS'
                      first | (go_simp; done) | (go_simp; with_reducible rfl)
                    try simp only [Act.put, List.getElem_toArray, List.getElem_cons_zero, List.getElem_cons_succ, List.setIfInBounds_toArray, List.set_cons_zero, List.set_cons_succ]
                    refine wpAnyH_take (i := 5) (v := ?_) rfl (by kernel_rfl) (by kernel_rfl) (by kernel_rfl) (fun _ _ _ h => h) (Or.inl ⟨by kernel_rfl, ?_⟩) hS ?_
                    rotate_left
                    · intro w' hS'
                      have hq := hS'.1
                      have hq2 := hS'.2
                      clear hS'
                      first | (go_simp; done) | (go_simp; with_reducible rfl)
                    try simp only [Act.put, List.getElem_toArray, List.getElem_cons_zero, List.getElem_cons_succ, List.setIfInBounds_toArray, List.set_cons_zero, List.set_cons_succ]
                    refine wpAnyH_take (i := 6) (v := ?_) rfl (by kernel_rfl) (by kernel_rfl) (by kernel_rfl) (fun _ _ _ h => h) (Or.inl ⟨by kernel_rfl, ?_⟩) hS ?_
                    rotate_left
                    · intro w' hS'
                      have hq := hS'.1
                      have hq2 := hS'.2
                      clear hS'
                      first | (go_simp; done) | (go_simp; with_reducible rfl)
                    try simp only [Act.put, List.getElem_toArray, List.getElem_cons_zero, List.getElem_cons_succ, List.setIfInBounds_toArray, List.set_cons_zero, List.set_cons_succ]
                    refine wpAnyH_take (i := 7) (v := ?_) rfl (by kernel_rfl) (by kernel_rfl) (by kernel_rfl) (fun _ _ _ h => h) (Or.inl ⟨by kernel_rfl, ?_⟩) hS ?_
                    rotate_left
                    · intro w' hS'
                      have hq := hS'.1
                      have hq2 := hS'.2
                      clear hS'
                      first | (go_simp; done) | (go_simp; with_reducible rfl)
                    try simp only [Act.put, List.getElem_toArray, List.getElem_cons_zero, List.getElem_cons_succ, List.setIfInBounds_toArray, List.set_cons_zero, List.set_cons_succ]
                    refine wpAnyH_take (i := 8) (v := ?_) rfl (by kernel_rfl) (by kernel_rfl) (by kernel_rfl) (fun _ _ _ h => h) (Or.inl ⟨by kernel_rfl, ?_⟩) hS ?_
                    rotate_left
                    · intro w' hS'
                      have hq := hS'.1
                      have hq2 := hS'.2
                      clear hS'
                      first | (go_simp; done) | (go_simp; with_reducible rfl)
                    try simp only [Act.put, List.getElem_toArray, List.getElem_cons_zero, List.getElem_cons_succ, List.setIfInBounds_toArray, List.set_cons_zero, List.set_cons_succ]
                    refine wpAnyH_ready (rs := [2]) (by kernel_rfl) (by simp) ?_
                    refine AllReadyH.cons rfl (fun K hK => ?_) AllReadyH.nil
                    rw [if_pos (by kernel_rfl)]
                    refine wp_append_str (.tmp 48) (.tmp 49) rfl W.heap.size _ 8 _ rfl hownD v rfl (by omega) hsq ?_
                    intro v2 w2 hown2 hb2
                    have hb3 := hS.2.trans hb2
                    refine hK.out _ _ ?_ (fun hS => ?_)
                    · exact ⟨(bcell hb3).1, hb3⟩
                    clear hK K
                    try simp only [Act.put, List.getElem_toArray, List.getElem_cons_zero, List.getElem_cons_succ, List.setIfInBounds_toArray, List.set_cons_zero, List.set_cons_succ]
                    refine wpAnyH_ready (rs := [9]) (by kernel_rfl) (by simp) ?_
                    refine AllReadyH.cons rfl (fun K hK => ?_) AllReadyH.nil
                    go_simp
                    go_at_call 37
                    refine (rep_any m _ hm100).mono ?_
                    rintro e w3 ⟨rfl, hk3⟩
                    try dsimp only
                    have hb4 := hb3.trans (hk3.mono hb3.size)
                    refine hK.out _ _ ?_ (fun hS => ?_)
                    · exact ⟨(bcell hb4).1, hb4⟩
                    clear hK K
                    try simp only [Act.put, List.getElem_toArray, List.getElem_cons_zero, List.getElem_cons_succ, List.setIfInBounds_toArray, List.set_cons_zero, List.set_cons_succ]
                    refine wpAnyH_ready (rs := [10]) (by kernel_rfl) (by simp) ?_
                    refine AllReadyH.cons rfl (fun K hK => ?_) AllReadyH.nil
                    rw [if_pos (by kernel_rfl)]
                    refine wp_append_str (.tmp 50) (.tmp 57) rfl W.heap.size v2 (8 + v.size) _ rfl (own_kept hown2 hk3) ⟨(List.replicate m (32 : UInt8)).toArray⟩ rfl (by rw [rep_size]; omega) hb4.size ?_
                    intro v5 w5 hown5 hb5
                    replace hb5 := hb4.trans hb5
                    refine hK.out _ _ ?_ (fun hS => ?_)
                    · exact ⟨(bcell hb5).1, hb5⟩
                    clear hK K
                    try simp only [Act.put, List.getElem_toArray, List.getElem_cons_zero, List.getElem_cons_succ, List.setIfInBounds_toArray, List.set_cons_zero, List.set_cons_succ]
                    rw [rep_size, hmn.out, show (⟨(List.replicate m (32 : UInt8)).toArray⟩ : ByteArray).data.toList = List.replicate m 32 from rfl, hml.out] at hown5
                    refine wpAnyH_take (i := 11) (v := ?_) rfl (by kernel_rfl) (by kernel_rfl) (by kernel_rfl) (fun _ _ _ h => h) (Or.inl ⟨by kernel_rfl, ?_⟩) hS ?_
                    rotate_left
                    · intro w' hS'
                      have hq := hS'.1
                      have hq2 := hS'.2
                      clear hS'
                      first | (go_simp; done) | (go_simp; with_reducible rfl)
                    try simp only [Act.put, List.getElem_toArray, List.getElem_cons_zero, List.getElem_cons_succ, List.setIfInBounds_toArray, List.set_cons_zero, List.set_cons_succ]
                    refine wpAnyH_done (by kernel_rfl) ?_ _
                    clear hcq hfq hown2 hownD
                    go_wp2_with fail
                    go_roundg (gk - 1)
                    case measure => omega
                    case rel => exact ⟨0 + 1, 0 + 1, by omega, by omega, by go_num, hown5, hb5, fun _ => hr.out, by omega, by omega⟩
                  · rw [hf] at hF
                    have hr : rightL v.data.toList = false := by simp [rightL, hp, hf]
                    replace hr := Lib.hid hr
                    replace hp := Lib.hid hp
                    replace hf := Lib.hid hf
                    go_wp2_with (first
                      | (go_at_call 35; refine (hP _).mono ?_; rintro e w1 ⟨rfl, hk1⟩)
                      | (go_at_call 36; refine (hF _).mono ?_; rintro e w2 ⟨rfl, rfl⟩))
                    go_ret2
                    exact einq_l (by simp [hr.out]) (hkW.trans (hbw.trans (hk1.mono hsz)|>.mono (by omega)))
              · by_cases h0 : k = 1
                · subst h0
                  obtain rfl : z = 1 := by omega
                  have hr1 := Lib.hid (h1 (by omega))
                  clear hz0 h1 h2 h3
                  replace hown : wr.ownsRow W.heap.size 5 1 u8 16 (u8C (inqK v p r false 1)) := hown
                  have hix := ix_1 v p r
                  have hP : ∀ w, _ := fun w => printable_any p w
                  have hF : ∀ w, _ := fun w => suffix_any p w (by omega)
                  cases hp : prL p.data.toList
                  · rw [hp] at hP
                    have hr : rightL p.data.toList = false := by simp [rightL, hp]
                    replace hr := Lib.hid hr
                    replace hp := Lib.hid hp
                    go_wp2_with (go_at_call 35; refine (hP _).mono ?_; rintro e w1 ⟨rfl, hk1⟩)
                    go_ret2
                    exact einq_l (by simp [hr.out]) (hkW.trans (hbw.trans (hk1.mono hsz)|>.mono (by omega)))
                  · rw [hp] at hP
                    cases hf : Lib.hasSuffix p.data.toList [32]
                    · rw [hf] at hF
                      have hr : rightL p.data.toList = true := by simp [rightL, hp, hf]
                      replace hr := Lib.hid hr
                      replace hp := Lib.hid hp
                      replace hf := Lib.hid hf
                      go_upto_region 16 with (first
                        | (go_at_call 35; refine (hP _).mono ?_; rintro e w1 ⟨rfl, hk1⟩)
                        | (go_at_call 36; refine (hF _).mono ?_; rintro e w2 ⟨rfl, rfl⟩))
                      have hbq := hbw.trans (hk1.mono hsz)
                      obtain ⟨hcq, hfq⟩ := bcell hbq
                      have hsq : W.heap.size ≤ w1.heap.size := hbq.size
                      have hownD : w1.drew.ownsRow W.heap.size 5 1 u8 16 (u8C (inqK v p r false 1)) := own_kept (own_kept hown hk1) (Below.refl _ _).drew
                      clear hown
                      have hmw0 : IntKind.i64.wrap (16 - (p.size : Int)) = 16 - (p.size : Int) := IntWalk.i64_in _ ⟨by omega, by omega⟩
                      obtain ⟨m, hm, hmw⟩ : ∃ m : Nat, m = 16 - p.size ∧ IntKind.i64.wrap (16 - (p.size : Int)) = (m : Int) := by
                        refine ⟨16 - p.size, rfl, hmw0.trans ?_⟩
                        clear hmw0
                        omega
                      clear hmw0
                      have hmn : 16 + p.size + m = 32 := by omega
                      have hml : inqK v p r false 1 ++ p.data.toList ++ List.replicate m 32 = inqK v p r false (1 + 1) := by
                        rw [hm]
                        simp [inqK, inqL, padL, List.append_assoc]
                      have hm100 : m ≤ 100 := by omega
                      have hs100 : p.size ≤ 100 := by omega
                      replace hm := Lib.hid hm
                      replace hmn := Lib.hid hmn
                      replace hml := Lib.hid hml
                      refine wp_region_held_drew (S := fun w' => (∀ b o, b < W.heap.size → w'.cell? ⟨b, o, none⟩ = W.cell? ⟨b, o, none⟩) ∧ Below W.heap.size W w') (by kernel_rfl) ⟨hcq, hbq.drew⟩ (fun hS => ?_)
                      refine wpAnyH_take (i := 0) (v := ?_) rfl (by kernel_rfl) (by kernel_rfl) (by kernel_rfl) (fun _ _ _ h => h) (Or.inl ⟨by kernel_rfl, ?_⟩) hS ?_
                      rotate_left
                      · intro w' hS'
                        have hq := hS'.1
                        have hq2 := hS'.2
                        clear hS'
                        first | (go_simp; done) | (go_simp; with_reducible rfl)
                      try simp only [Act.put, List.getElem_toArray, List.getElem_cons_zero, List.getElem_cons_succ, List.setIfInBounds_toArray, List.set_cons_zero, List.set_cons_succ]
                      refine wpAnyH_take (i := 1) (v := ?_) rfl (by kernel_rfl) (by kernel_rfl) (by kernel_rfl) (fun _ _ _ h => h) (Or.inl ⟨by kernel_rfl, ?_⟩) hS ?_
                      rotate_left
                      · intro w' hS'
                        have hq := hS'.1
                        have hq2 := hS'.2
                        clear hS'
                        first | (go_simp; done) | (go_simp; with_reducible rfl)
                      try simp only [Act.put, List.getElem_toArray, List.getElem_cons_zero, List.getElem_cons_succ, List.setIfInBounds_toArray, List.set_cons_zero, List.set_cons_succ]
                      refine wpAnyH_take (i := 3) (v := ?_) rfl (by kernel_rfl) (by kernel_rfl) (by kernel_rfl) (fun _ _ _ h => h) (Or.inl ⟨by kernel_rfl, ?_⟩) hS ?_
                      rotate_left
                      · intro w' hS'
                        have hq := hS'.1
                        have hq2 := hS'.2
                        clear hS'
                        first | (go_simp; done) | (go_simp; with_reducible rfl)
                      try simp only [Act.put, List.getElem_toArray, List.getElem_cons_zero, List.getElem_cons_succ, List.setIfInBounds_toArray, List.set_cons_zero, List.set_cons_succ]
                      refine wpAnyH_take (i := 4) (v := ?_) rfl (by kernel_rfl) (by kernel_rfl) (by kernel_rfl) (fun _ _ _ h => h) (Or.inl ⟨by kernel_rfl, ?_⟩) hS ?_
                      rotate_left
                      · intro w' hS'
                        have hq := hS'.1
                        have hq2 := hS'.2
                        clear hS'
                        first | (go_simp; done) | (go_simp; with_reducible rfl)
                      try simp only [Act.put, List.getElem_toArray, List.getElem_cons_zero, List.getElem_cons_succ, List.setIfInBounds_toArray, List.set_cons_zero, List.set_cons_succ]
                      refine wpAnyH_take (i := 5) (v := ?_) rfl (by kernel_rfl) (by kernel_rfl) (by kernel_rfl) (fun _ _ _ h => h) (Or.inl ⟨by kernel_rfl, ?_⟩) hS ?_
                      rotate_left
                      · intro w' hS'
                        have hq := hS'.1
                        have hq2 := hS'.2
                        clear hS'
                        first | (go_simp; done) | (go_simp; with_reducible rfl)
                      try simp only [Act.put, List.getElem_toArray, List.getElem_cons_zero, List.getElem_cons_succ, List.setIfInBounds_toArray, List.set_cons_zero, List.set_cons_succ]
                      refine wpAnyH_take (i := 6) (v := ?_) rfl (by kernel_rfl) (by kernel_rfl) (by kernel_rfl) (fun _ _ _ h => h) (Or.inl ⟨by kernel_rfl, ?_⟩) hS ?_
                      rotate_left
                      · intro w' hS'
                        have hq := hS'.1
                        have hq2 := hS'.2
                        clear hS'
                        first | (go_simp; done) | (go_simp; with_reducible rfl)
                      try simp only [Act.put, List.getElem_toArray, List.getElem_cons_zero, List.getElem_cons_succ, List.setIfInBounds_toArray, List.set_cons_zero, List.set_cons_succ]
                      refine wpAnyH_take (i := 7) (v := ?_) rfl (by kernel_rfl) (by kernel_rfl) (by kernel_rfl) (fun _ _ _ h => h) (Or.inl ⟨by kernel_rfl, ?_⟩) hS ?_
                      rotate_left
                      · intro w' hS'
                        have hq := hS'.1
                        have hq2 := hS'.2
                        clear hS'
                        first | (go_simp; done) | (go_simp; with_reducible rfl)
                      try simp only [Act.put, List.getElem_toArray, List.getElem_cons_zero, List.getElem_cons_succ, List.setIfInBounds_toArray, List.set_cons_zero, List.set_cons_succ]
                      refine wpAnyH_take (i := 8) (v := ?_) rfl (by kernel_rfl) (by kernel_rfl) (by kernel_rfl) (fun _ _ _ h => h) (Or.inl ⟨by kernel_rfl, ?_⟩) hS ?_
                      rotate_left
                      · intro w' hS'
                        have hq := hS'.1
                        have hq2 := hS'.2
                        clear hS'
                        first | (go_simp; done) | (go_simp; with_reducible rfl)
                      try simp only [Act.put, List.getElem_toArray, List.getElem_cons_zero, List.getElem_cons_succ, List.setIfInBounds_toArray, List.set_cons_zero, List.set_cons_succ]
                      refine wpAnyH_ready (rs := [2]) (by kernel_rfl) (by simp) ?_
                      refine AllReadyH.cons rfl (fun K hK => ?_) AllReadyH.nil
                      rw [if_pos (by kernel_rfl)]
                      refine wp_append_str (.tmp 48) (.tmp 49) rfl W.heap.size _ 16 _ rfl hownD p rfl (by omega) hsq ?_
                      intro v2 w2 hown2 hb2
                      have hb3 := hS.2.trans hb2
                      refine hK.out _ _ ?_ (fun hS => ?_)
                      · exact ⟨(bcell hb3).1, hb3⟩
                      clear hK K
                      try simp only [Act.put, List.getElem_toArray, List.getElem_cons_zero, List.getElem_cons_succ, List.setIfInBounds_toArray, List.set_cons_zero, List.set_cons_succ]
                      refine wpAnyH_ready (rs := [9]) (by kernel_rfl) (by simp) ?_
                      refine AllReadyH.cons rfl (fun K hK => ?_) AllReadyH.nil
                      go_simp
                      go_at_call 37
                      refine (rep_any m _ hm100).mono ?_
                      rintro e w3 ⟨rfl, hk3⟩
                      try dsimp only
                      have hb4 := hb3.trans (hk3.mono hb3.size)
                      refine hK.out _ _ ?_ (fun hS => ?_)
                      · exact ⟨(bcell hb4).1, hb4⟩
                      clear hK K
                      try simp only [Act.put, List.getElem_toArray, List.getElem_cons_zero, List.getElem_cons_succ, List.setIfInBounds_toArray, List.set_cons_zero, List.set_cons_succ]
                      refine wpAnyH_ready (rs := [10]) (by kernel_rfl) (by simp) ?_
                      refine AllReadyH.cons rfl (fun K hK => ?_) AllReadyH.nil
                      rw [if_pos (by kernel_rfl)]
                      refine wp_append_str (.tmp 50) (.tmp 57) rfl W.heap.size v2 (16 + p.size) _ rfl (own_kept hown2 hk3) ⟨(List.replicate m (32 : UInt8)).toArray⟩ rfl (by rw [rep_size]; omega) hb4.size ?_
                      intro v5 w5 hown5 hb5
                      replace hb5 := hb4.trans hb5
                      refine hK.out _ _ ?_ (fun hS => ?_)
                      · exact ⟨(bcell hb5).1, hb5⟩
                      clear hK K
                      try simp only [Act.put, List.getElem_toArray, List.getElem_cons_zero, List.getElem_cons_succ, List.setIfInBounds_toArray, List.set_cons_zero, List.set_cons_succ]
                      rw [rep_size, hmn.out, show (⟨(List.replicate m (32 : UInt8)).toArray⟩ : ByteArray).data.toList = List.replicate m 32 from rfl, hml.out] at hown5
                      refine wpAnyH_take (i := 11) (v := ?_) rfl (by kernel_rfl) (by kernel_rfl) (by kernel_rfl) (fun _ _ _ h => h) (Or.inl ⟨by kernel_rfl, ?_⟩) hS ?_
                      rotate_left
                      · intro w' hS'
                        have hq := hS'.1
                        have hq2 := hS'.2
                        clear hS'
                        first | (go_simp; done) | (go_simp; with_reducible rfl)
                      try simp only [Act.put, List.getElem_toArray, List.getElem_cons_zero, List.getElem_cons_succ, List.setIfInBounds_toArray, List.set_cons_zero, List.set_cons_succ]
                      refine wpAnyH_done (by kernel_rfl) ?_ _
                      clear hcq hfq hown2 hownD
                      go_wp2_with fail
                      go_roundg (gk - 1)
                      case measure => omega
                      case rel => exact ⟨1 + 1, 1 + 1, by omega, by omega, by go_num, hown5, hb5, fun _ => hr1.out, fun _ => hr.out, by omega⟩
                    · rw [hf] at hF
                      have hr : rightL p.data.toList = false := by simp [rightL, hp, hf]
                      replace hr := Lib.hid hr
                      replace hp := Lib.hid hp
                      replace hf := Lib.hid hf
                      go_wp2_with (first
                        | (go_at_call 35; refine (hP _).mono ?_; rintro e w1 ⟨rfl, hk1⟩)
                        | (go_at_call 36; refine (hF _).mono ?_; rintro e w2 ⟨rfl, rfl⟩))
                      go_ret2
                      exact einq_l (by simp [hr.out]) (hkW.trans (hbw.trans (hk1.mono hsz)|>.mono (by omega)))
                · by_cases h0 : k = 2
                  · subst h0
                    obtain rfl : z = 2 := by omega
                    have hr1 := Lib.hid (h1 (by omega))
                    have hr2 := Lib.hid (h2 (by omega))
                    clear hz0 h1 h2 h3
                    replace hown : wr.ownsRow W.heap.size 5 1 u8 32 (u8C (inqK v p r false 2)) := hown
                    have hix := ix_2 v p r
                    have hP : ∀ w, _ := fun w => printable_any r w
                    have hF : ∀ w, _ := fun w => suffix_any r w (by omega)
                    cases hp : prL r.data.toList
                    · rw [hp] at hP
                      have hr : rightL r.data.toList = false := by simp [rightL, hp]
                      replace hr := Lib.hid hr
                      replace hp := Lib.hid hp
                      go_wp2_with (go_at_call 35; refine (hP _).mono ?_; rintro e w1 ⟨rfl, hk1⟩)
                      go_ret2
                      exact einq_l (by simp [hr.out]) (hkW.trans (hbw.trans (hk1.mono hsz)|>.mono (by omega)))
                    · rw [hp] at hP
                      cases hf : Lib.hasSuffix r.data.toList [32]
                      · rw [hf] at hF
                        have hr : rightL r.data.toList = true := by simp [rightL, hp, hf]
                        replace hr := Lib.hid hr
                        replace hp := Lib.hid hp
                        replace hf := Lib.hid hf
                        go_upto_region 16 with (first
                          | (go_at_call 35; refine (hP _).mono ?_; rintro e w1 ⟨rfl, hk1⟩)
                          | (go_at_call 36; refine (hF _).mono ?_; rintro e w2 ⟨rfl, rfl⟩))
                        have hbq := hbw.trans (hk1.mono hsz)
                        obtain ⟨hcq, hfq⟩ := bcell hbq
                        have hsq : W.heap.size ≤ w1.heap.size := hbq.size
                        have hownD : w1.drew.ownsRow W.heap.size 5 1 u8 32 (u8C (inqK v p r false 2)) := own_kept (own_kept hown hk1) (Below.refl _ _).drew
                        clear hown
                        have hmw0 : IntKind.i64.wrap (4 - (r.size : Int)) = 4 - (r.size : Int) := IntWalk.i64_in _ ⟨by omega, by omega⟩
                        obtain ⟨m, hm, hmw⟩ : ∃ m : Nat, m = 4 - r.size ∧ IntKind.i64.wrap (4 - (r.size : Int)) = (m : Int) := by
                          refine ⟨4 - r.size, rfl, hmw0.trans ?_⟩
                          clear hmw0
                          omega
                        clear hmw0
                        have hmn : 32 + r.size + m = 36 := by omega
                        have hml : inqK v p r false 2 ++ r.data.toList ++ List.replicate m 32 = inqK v p r false (2 + 1) := by
                          rw [hm]
                          simp [inqK, inqL, padL, List.append_assoc]
                        have hm100 : m ≤ 100 := by omega
                        have hs100 : r.size ≤ 100 := by omega
                        replace hm := Lib.hid hm
                        replace hmn := Lib.hid hmn
                        replace hml := Lib.hid hml
                        refine wp_region_held_drew (S := fun w' => (∀ b o, b < W.heap.size → w'.cell? ⟨b, o, none⟩ = W.cell? ⟨b, o, none⟩) ∧ Below W.heap.size W w') (by kernel_rfl) ⟨hcq, hbq.drew⟩ (fun hS => ?_)
                        refine wpAnyH_take (i := 0) (v := ?_) rfl (by kernel_rfl) (by kernel_rfl) (by kernel_rfl) (fun _ _ _ h => h) (Or.inl ⟨by kernel_rfl, ?_⟩) hS ?_
                        rotate_left
                        · intro w' hS'
                          have hq := hS'.1
                          have hq2 := hS'.2
                          clear hS'
                          first | (go_simp; done) | (go_simp; with_reducible rfl)
                        try simp only [Act.put, List.getElem_toArray, List.getElem_cons_zero, List.getElem_cons_succ, List.setIfInBounds_toArray, List.set_cons_zero, List.set_cons_succ]
                        refine wpAnyH_take (i := 1) (v := ?_) rfl (by kernel_rfl) (by kernel_rfl) (by kernel_rfl) (fun _ _ _ h => h) (Or.inl ⟨by kernel_rfl, ?_⟩) hS ?_
                        rotate_left
                        · intro w' hS'
                          have hq := hS'.1
                          have hq2 := hS'.2
                          clear hS'
                          first | (go_simp; done) | (go_simp; with_reducible rfl)
                        try simp only [Act.put, List.getElem_toArray, List.getElem_cons_zero, List.getElem_cons_succ, List.setIfInBounds_toArray, List.set_cons_zero, List.set_cons_succ]
                        refine wpAnyH_take (i := 3) (v := ?_) rfl (by kernel_rfl) (by kernel_rfl) (by kernel_rfl) (fun _ _ _ h => h) (Or.inl ⟨by kernel_rfl, ?_⟩) hS ?_
                        rotate_left
                        · intro w' hS'
                          have hq := hS'.1
                          have hq2 := hS'.2
                          clear hS'
                          first | (go_simp; done) | (go_simp; with_reducible rfl)
                        try simp only [Act.put, List.getElem_toArray, List.getElem_cons_zero, List.getElem_cons_succ, List.setIfInBounds_toArray, List.set_cons_zero, List.set_cons_succ]
                        refine wpAnyH_take (i := 4) (v := ?_) rfl (by kernel_rfl) (by kernel_rfl) (by kernel_rfl) (fun _ _ _ h => h) (Or.inl ⟨by kernel_rfl, ?_⟩) hS ?_
                        rotate_left
                        · intro w' hS'
                          have hq := hS'.1
                          have hq2 := hS'.2
                          clear hS'
                          first | (go_simp; done) | (go_simp; with_reducible rfl)
                        try simp only [Act.put, List.getElem_toArray, List.getElem_cons_zero, List.getElem_cons_succ, List.setIfInBounds_toArray, List.set_cons_zero, List.set_cons_succ]
                        refine wpAnyH_take (i := 5) (v := ?_) rfl (by kernel_rfl) (by kernel_rfl) (by kernel_rfl) (fun _ _ _ h => h) (Or.inl ⟨by kernel_rfl, ?_⟩) hS ?_
                        rotate_left
                        · intro w' hS'
                          have hq := hS'.1
                          have hq2 := hS'.2
                          clear hS'
                          first | (go_simp; done) | (go_simp; with_reducible rfl)
                        try simp only [Act.put, List.getElem_toArray, List.getElem_cons_zero, List.getElem_cons_succ, List.setIfInBounds_toArray, List.set_cons_zero, List.set_cons_succ]
                        refine wpAnyH_take (i := 6) (v := ?_) rfl (by kernel_rfl) (by kernel_rfl) (by kernel_rfl) (fun _ _ _ h => h) (Or.inl ⟨by kernel_rfl, ?_⟩) hS ?_
                        rotate_left
                        · intro w' hS'
                          have hq := hS'.1
                          have hq2 := hS'.2
                          clear hS'
                          first | (go_simp; done) | (go_simp; with_reducible rfl)
                        try simp only [Act.put, List.getElem_toArray, List.getElem_cons_zero, List.getElem_cons_succ, List.setIfInBounds_toArray, List.set_cons_zero, List.set_cons_succ]
                        refine wpAnyH_take (i := 7) (v := ?_) rfl (by kernel_rfl) (by kernel_rfl) (by kernel_rfl) (fun _ _ _ h => h) (Or.inl ⟨by kernel_rfl, ?_⟩) hS ?_
                        rotate_left
                        · intro w' hS'
                          have hq := hS'.1
                          have hq2 := hS'.2
                          clear hS'
                          first | (go_simp; done) | (go_simp; with_reducible rfl)
                        try simp only [Act.put, List.getElem_toArray, List.getElem_cons_zero, List.getElem_cons_succ, List.setIfInBounds_toArray, List.set_cons_zero, List.set_cons_succ]
                        refine wpAnyH_take (i := 8) (v := ?_) rfl (by kernel_rfl) (by kernel_rfl) (by kernel_rfl) (fun _ _ _ h => h) (Or.inl ⟨by kernel_rfl, ?_⟩) hS ?_
                        rotate_left
                        · intro w' hS'
                          have hq := hS'.1
                          have hq2 := hS'.2
                          clear hS'
                          first | (go_simp; done) | (go_simp; with_reducible rfl)
                        try simp only [Act.put, List.getElem_toArray, List.getElem_cons_zero, List.getElem_cons_succ, List.setIfInBounds_toArray, List.set_cons_zero, List.set_cons_succ]
                        refine wpAnyH_ready (rs := [2]) (by kernel_rfl) (by simp) ?_
                        refine AllReadyH.cons rfl (fun K hK => ?_) AllReadyH.nil
                        rw [if_pos (by kernel_rfl)]
                        refine wp_append_str (.tmp 48) (.tmp 49) rfl W.heap.size _ 32 _ rfl hownD r rfl (by omega) hsq ?_
                        intro v2 w2 hown2 hb2
                        have hb3 := hS.2.trans hb2
                        refine hK.out _ _ ?_ (fun hS => ?_)
                        · exact ⟨(bcell hb3).1, hb3⟩
                        clear hK K
                        try simp only [Act.put, List.getElem_toArray, List.getElem_cons_zero, List.getElem_cons_succ, List.setIfInBounds_toArray, List.set_cons_zero, List.set_cons_succ]
                        refine wpAnyH_ready (rs := [9]) (by kernel_rfl) (by simp) ?_
                        refine AllReadyH.cons rfl (fun K hK => ?_) AllReadyH.nil
                        go_simp
                        go_at_call 37
                        refine (rep_any m _ hm100).mono ?_
                        rintro e w3 ⟨rfl, hk3⟩
                        try dsimp only
                        have hb4 := hb3.trans (hk3.mono hb3.size)
                        refine hK.out _ _ ?_ (fun hS => ?_)
                        · exact ⟨(bcell hb4).1, hb4⟩
                        clear hK K
                        try simp only [Act.put, List.getElem_toArray, List.getElem_cons_zero, List.getElem_cons_succ, List.setIfInBounds_toArray, List.set_cons_zero, List.set_cons_succ]
                        refine wpAnyH_ready (rs := [10]) (by kernel_rfl) (by simp) ?_
                        refine AllReadyH.cons rfl (fun K hK => ?_) AllReadyH.nil
                        rw [if_pos (by kernel_rfl)]
                        refine wp_append_str (.tmp 50) (.tmp 57) rfl W.heap.size v2 (32 + r.size) _ rfl (own_kept hown2 hk3) ⟨(List.replicate m (32 : UInt8)).toArray⟩ rfl (by rw [rep_size]; omega) hb4.size ?_
                        intro v5 w5 hown5 hb5
                        replace hb5 := hb4.trans hb5
                        refine hK.out _ _ ?_ (fun hS => ?_)
                        · exact ⟨(bcell hb5).1, hb5⟩
                        clear hK K
                        try simp only [Act.put, List.getElem_toArray, List.getElem_cons_zero, List.getElem_cons_succ, List.setIfInBounds_toArray, List.set_cons_zero, List.set_cons_succ]
                        rw [rep_size, hmn.out, show (⟨(List.replicate m (32 : UInt8)).toArray⟩ : ByteArray).data.toList = List.replicate m 32 from rfl, hml.out] at hown5
                        refine wpAnyH_take (i := 11) (v := ?_) rfl (by kernel_rfl) (by kernel_rfl) (by kernel_rfl) (fun _ _ _ h => h) (Or.inl ⟨by kernel_rfl, ?_⟩) hS ?_
                        rotate_left
                        · intro w' hS'
                          have hq := hS'.1
                          have hq2 := hS'.2
                          clear hS'
                          first | (go_simp; done) | (go_simp; with_reducible rfl)
                        try simp only [Act.put, List.getElem_toArray, List.getElem_cons_zero, List.getElem_cons_succ, List.setIfInBounds_toArray, List.set_cons_zero, List.set_cons_succ]
                        refine wpAnyH_done (by kernel_rfl) ?_ _
                        clear hcq hfq hown2 hownD
                        go_wp2_with fail
                        go_roundg (gk - 1)
                        case measure => omega
                        case rel => exact ⟨2 + 1, 2 + 1, by omega, by omega, by go_num, hown5, hb5, fun _ => hr1.out, fun _ => hr2.out, fun _ => hr.out⟩
                      · rw [hf] at hF
                        have hr : rightL r.data.toList = false := by simp [rightL, hp, hf]
                        replace hr := Lib.hid hr
                        replace hp := Lib.hid hp
                        replace hf := Lib.hid hf
                        go_wp2_with (first
                          | (go_at_call 35; refine (hP _).mono ?_; rintro e w1 ⟨rfl, hk1⟩)
                          | (go_at_call 36; refine (hF _).mono ?_; rintro e w2 ⟨rfl, rfl⟩))
                        go_ret2
                        exact einq_l (by simp [hr.out]) (hkW.trans (hbw.trans (hk1.mono hsz)|>.mono (by omega)))
                  · obtain rfl : k = 3 := by omega
                    obtain rfl : z = 3 := by omega
                    have hr1 := Lib.hid (h1 (by omega))
                    have hr2 := Lib.hid (h2 (by omega))
                    have hr3 := Lib.hid (h3 (by omega))
                    clear hz0 h1 h2 h3
                    replace hown : wr.ownsRow W.heap.size 5 1 u8 (35 + 1) (u8C (inqK v p r false 3)) := hown
                    obtain ⟨g, cap, rfl, hg, hc1, hc2, hB⟩ := row_bs hown
                    replace hB := Lib.hid hB
                    clear hown
                    go_wp2_with (go_at_call 38; refine (clip_any g 0 (35 + 1) cap _ hc1 hc2).mono ?_; rintro e w9 ⟨rfl, hk9⟩)
                    go_ret2
                    exact .inr ⟨by rw [hr1.out, hr2.out, hr3.out]; rfl, g, rfl, by omega, hB.out.kept hk9, hkW.trans ((hbw.trans (hk9.mono hsz)).mono (by omega))⟩
          · go_wp2_with fail
            go_loopg [8, 37] 3 (fun g s8 s37 wr => ∃ (k : Nat) (z : Int), k + g = 3 ∧ z = k ∧ s37 = .int .i64 z ∧ wr.ownsRow W.heap.size 5 1 s8 (lenK k) (u8C (inqK v p r true k)) ∧ Below W.heap.size W wr ∧ (0 < k → rightL v.data.toList = true) ∧ (1 < k → rightL p.data.toList = true) ∧ (2 < k → rightL r.data.toList = true))
            case atStart =>
              refine ⟨0, 0, by omega, rfl, rfl, ⟨rfl, .inr ⟨W.heap.size, 8, _, by rw [hz]; rfl, Nat.le_refl _, heap_alloc_new W _, by decide, by decide, rfl, rfl⟩⟩, (Below.refl _ _).alloc (Nat.le_refl _) _, by omega, by omega, by omega⟩
            case round =>
              obtain ⟨k, z, hk, hz0, rfl, hown, hbw, h1, h2, h3⟩ := hrel
              have hsz := hbw.size
              by_cases h0 : k = 0
              · subst h0
                obtain rfl : z = 0 := by omega
                clear hz0 h1 h2 h3
                replace hown : wr.ownsRow W.heap.size 5 1 u8 8 (u8C (inqK v p r true 0)) := hown
                have hix := ix_0 v p r
                have hP : ∀ w, _ := fun w => printable_any v w
                have hF : ∀ w, _ := fun w => suffix_any v w (by omega)
                cases hp : prL v.data.toList
                · rw [hp] at hP
                  have hr : rightL v.data.toList = false := by simp [rightL, hp]
                  replace hr := Lib.hid hr
                  replace hp := Lib.hid hp
                  go_wp2_with (go_at_call 35; refine (hP _).mono ?_; rintro e w1 ⟨rfl, hk1⟩)
                  go_ret2
                  exact einq_l (by simp [hr.out]) (hkW.trans (hbw.trans (hk1.mono hsz)|>.mono (by omega)))
                · rw [hp] at hP
                  cases hf : Lib.hasSuffix v.data.toList [32]
                  · rw [hf] at hF
                    have hr : rightL v.data.toList = true := by simp [rightL, hp, hf]
                    replace hr := Lib.hid hr
                    replace hp := Lib.hid hp
                    replace hf := Lib.hid hf
                    go_upto_region 16 with (first
                      | (go_at_call 35; refine (hP _).mono ?_; rintro e w1 ⟨rfl, hk1⟩)
                      | (go_at_call 36; refine (hF _).mono ?_; rintro e w2 ⟨rfl, rfl⟩))
                    have hbq := hbw.trans (hk1.mono hsz)
                    obtain ⟨hcq, hfq⟩ := bcell hbq
                    have hsq : W.heap.size ≤ w1.heap.size := hbq.size
                    have hownD : w1.drew.ownsRow W.heap.size 5 1 u8 8 (u8C (inqK v p r true 0)) := own_kept (own_kept hown hk1) (Below.refl _ _).drew
                    clear hown
                    have hmw0 : IntKind.i64.wrap (8 - (v.size : Int)) = 8 - (v.size : Int) := IntWalk.i64_in _ ⟨by omega, by omega⟩
                    obtain ⟨m, hm, hmw⟩ : ∃ m : Nat, m = 8 - v.size ∧ IntKind.i64.wrap (8 - (v.size : Int)) = (m : Int) := by
                      refine ⟨8 - v.size, rfl, hmw0.trans ?_⟩
                      clear hmw0
                      omega
                    clear hmw0
                    have hmn : 8 + v.size + m = 16 := by omega
                    have hml : inqK v p r true 0 ++ v.data.toList ++ List.replicate m 32 = inqK v p r true (0 + 1) := by
                      rw [hm]
                      simp [inqK, inqL, padL, List.append_assoc]
                    have hm100 : m ≤ 100 := by omega
                    have hs100 : v.size ≤ 100 := by omega
                    replace hm := Lib.hid hm
                    replace hmn := Lib.hid hmn
                    replace hml := Lib.hid hml
                    refine wp_region_held_drew (S := fun w' => (∀ b o, b < W.heap.size → w'.cell? ⟨b, o, none⟩ = W.cell? ⟨b, o, none⟩) ∧ Below W.heap.size W w') (by kernel_rfl) ⟨hcq, hbq.drew⟩ (fun hS => ?_)
                    refine wpAnyH_take (i := 0) (v := ?_) rfl (by kernel_rfl) (by kernel_rfl) (by kernel_rfl) (fun _ _ _ h => h) (Or.inl ⟨by kernel_rfl, ?_⟩) hS ?_
                    rotate_left
                    · intro w' hS'
                      have hq := hS'.1
                      have hq2 := hS'.2
                      clear hS'
                      first | (go_simp; done) | (go_simp; with_reducible rfl)
                    try simp only [Act.put, List.getElem_toArray, List.getElem_cons_zero, List.getElem_cons_succ, List.setIfInBounds_toArray, List.set_cons_zero, List.set_cons_succ]
                    refine wpAnyH_take (i := 1) (v := ?_) rfl (by kernel_rfl) (by kernel_rfl) (by kernel_rfl) (fun _ _ _ h => h) (Or.inl ⟨by kernel_rfl, ?_⟩) hS ?_
                    rotate_left
                    · intro w' hS'
                      have hq := hS'.1
                      have hq2 := hS'.2
                      clear hS'
                      first | (go_simp; done) | (go_simp; with_reducible rfl)
                    try simp only [Act.put, List.getElem_toArray, List.getElem_cons_zero, List.getElem_cons_succ, List.setIfInBounds_toArray, List.set_cons_zero, List.set_cons_succ]
                    refine wpAnyH_take (i := 3) (v := ?_) rfl (by kernel_rfl) (by kernel_rfl) (by kernel_rfl) (fun _ _ _ h => h) (Or.inl ⟨by kernel_rfl, ?_⟩) hS ?_
                    rotate_left
                    · intro w' hS'
                      have hq := hS'.1
                      have hq2 := hS'.2
                      clear hS'
                      first | (go_simp; done) | (go_simp; with_reducible rfl)
                    try simp only [Act.put, List.getElem_toArray, List.getElem_cons_zero, List.getElem_cons_succ, List.setIfInBounds_toArray, List.set_cons_zero, List.set_cons_succ]
                    refine wpAnyH_take (i := 4) (v := ?_) rfl (by kernel_rfl) (by kernel_rfl) (by kernel_rfl) (fun _ _ _ h => h) (Or.inl ⟨by kernel_rfl, ?_⟩) hS ?_
                    rotate_left
                    · intro w' hS'
                      have hq := hS'.1
                      have hq2 := hS'.2
                      clear hS'
                      first | (go_simp; done) | (go_simp; with_reducible rfl)
                    try simp only [Act.put, List.getElem_toArray, List.getElem_cons_zero, List.getElem_cons_succ, List.setIfInBounds_toArray, List.set_cons_zero, List.set_cons_succ]
                    refine wpAnyH_take (i := 5) (v := ?_) rfl (by kernel_rfl) (by kernel_rfl) (by kernel_rfl) (fun _ _ _ h => h) (Or.inl ⟨by kernel_rfl, ?_⟩) hS ?_
                    rotate_left
                    · intro w' hS'
                      have hq := hS'.1
                      have hq2 := hS'.2
                      clear hS'
                      first | (go_simp; done) | (go_simp; with_reducible rfl)
                    try simp only [Act.put, List.getElem_toArray, List.getElem_cons_zero, List.getElem_cons_succ, List.setIfInBounds_toArray, List.set_cons_zero, List.set_cons_succ]
                    refine wpAnyH_take (i := 6) (v := ?_) rfl (by kernel_rfl) (by kernel_rfl) (by kernel_rfl) (fun _ _ _ h => h) (Or.inl ⟨by kernel_rfl, ?_⟩) hS ?_
                    rotate_left
                    · intro w' hS'
                      have hq := hS'.1
                      have hq2 := hS'.2
                      clear hS'
                      first | (go_simp; done) | (go_simp; with_reducible rfl)
                    try simp only [Act.put, List.getElem_toArray, List.getElem_cons_zero, List.getElem_cons_succ, List.setIfInBounds_toArray, List.set_cons_zero, List.set_cons_succ]
                    refine wpAnyH_take (i := 7) (v := ?_) rfl (by kernel_rfl) (by kernel_rfl) (by kernel_rfl) (fun _ _ _ h => h) (Or.inl ⟨by kernel_rfl, ?_⟩) hS ?_
                    rotate_left
                    · intro w' hS'
                      have hq := hS'.1
                      have hq2 := hS'.2
                      clear hS'
                      first | (go_simp; done) | (go_simp; with_reducible rfl)
                    try simp only [Act.put, List.getElem_toArray, List.getElem_cons_zero, List.getElem_cons_succ, List.setIfInBounds_toArray, List.set_cons_zero, List.set_cons_succ]
                    refine wpAnyH_take (i := 8) (v := ?_) rfl (by kernel_rfl) (by kernel_rfl) (by kernel_rfl) (fun _ _ _ h => h) (Or.inl ⟨by kernel_rfl, ?_⟩) hS ?_
                    rotate_left
                    · intro w' hS'
                      have hq := hS'.1
                      have hq2 := hS'.2
                      clear hS'
                      first | (go_simp; done) | (go_simp; with_reducible rfl)
                    try simp only [Act.put, List.getElem_toArray, List.getElem_cons_zero, List.getElem_cons_succ, List.setIfInBounds_toArray, List.set_cons_zero, List.set_cons_succ]
                    refine wpAnyH_ready (rs := [2]) (by kernel_rfl) (by simp) ?_
                    refine AllReadyH.cons rfl (fun K hK => ?_) AllReadyH.nil
                    rw [if_pos (by kernel_rfl)]
                    refine wp_append_str (.tmp 48) (.tmp 49) rfl W.heap.size _ 8 _ rfl hownD v rfl (by omega) hsq ?_
                    intro v2 w2 hown2 hb2
                    have hb3 := hS.2.trans hb2
                    refine hK.out _ _ ?_ (fun hS => ?_)
                    · exact ⟨(bcell hb3).1, hb3⟩
                    clear hK K
                    try simp only [Act.put, List.getElem_toArray, List.getElem_cons_zero, List.getElem_cons_succ, List.setIfInBounds_toArray, List.set_cons_zero, List.set_cons_succ]
                    refine wpAnyH_ready (rs := [9]) (by kernel_rfl) (by simp) ?_
                    refine AllReadyH.cons rfl (fun K hK => ?_) AllReadyH.nil
                    go_simp
                    go_at_call 37
                    refine (rep_any m _ hm100).mono ?_
                    rintro e w3 ⟨rfl, hk3⟩
                    try dsimp only
                    have hb4 := hb3.trans (hk3.mono hb3.size)
                    refine hK.out _ _ ?_ (fun hS => ?_)
                    · exact ⟨(bcell hb4).1, hb4⟩
                    clear hK K
                    try simp only [Act.put, List.getElem_toArray, List.getElem_cons_zero, List.getElem_cons_succ, List.setIfInBounds_toArray, List.set_cons_zero, List.set_cons_succ]
                    refine wpAnyH_ready (rs := [10]) (by kernel_rfl) (by simp) ?_
                    refine AllReadyH.cons rfl (fun K hK => ?_) AllReadyH.nil
                    rw [if_pos (by kernel_rfl)]
                    refine wp_append_str (.tmp 50) (.tmp 57) rfl W.heap.size v2 (8 + v.size) _ rfl (own_kept hown2 hk3) ⟨(List.replicate m (32 : UInt8)).toArray⟩ rfl (by rw [rep_size]; omega) hb4.size ?_
                    intro v5 w5 hown5 hb5
                    replace hb5 := hb4.trans hb5
                    refine hK.out _ _ ?_ (fun hS => ?_)
                    · exact ⟨(bcell hb5).1, hb5⟩
                    clear hK K
                    try simp only [Act.put, List.getElem_toArray, List.getElem_cons_zero, List.getElem_cons_succ, List.setIfInBounds_toArray, List.set_cons_zero, List.set_cons_succ]
                    rw [rep_size, hmn.out, show (⟨(List.replicate m (32 : UInt8)).toArray⟩ : ByteArray).data.toList = List.replicate m 32 from rfl, hml.out] at hown5
                    refine wpAnyH_take (i := 11) (v := ?_) rfl (by kernel_rfl) (by kernel_rfl) (by kernel_rfl) (fun _ _ _ h => h) (Or.inl ⟨by kernel_rfl, ?_⟩) hS ?_
                    rotate_left
                    · intro w' hS'
                      have hq := hS'.1
                      have hq2 := hS'.2
                      clear hS'
                      first | (go_simp; done) | (go_simp; with_reducible rfl)
                    try simp only [Act.put, List.getElem_toArray, List.getElem_cons_zero, List.getElem_cons_succ, List.setIfInBounds_toArray, List.set_cons_zero, List.set_cons_succ]
                    refine wpAnyH_done (by kernel_rfl) ?_ _
                    clear hcq hfq hown2 hownD
                    go_wp2_with fail
                    go_roundg (gk - 1)
                    case measure => omega
                    case rel => exact ⟨0 + 1, 0 + 1, by omega, by omega, by go_num, hown5, hb5, fun _ => hr.out, by omega, by omega⟩
                  · rw [hf] at hF
                    have hr : rightL v.data.toList = false := by simp [rightL, hp, hf]
                    replace hr := Lib.hid hr
                    replace hp := Lib.hid hp
                    replace hf := Lib.hid hf
                    go_wp2_with (first
                      | (go_at_call 35; refine (hP _).mono ?_; rintro e w1 ⟨rfl, hk1⟩)
                      | (go_at_call 36; refine (hF _).mono ?_; rintro e w2 ⟨rfl, rfl⟩))
                    go_ret2
                    exact einq_l (by simp [hr.out]) (hkW.trans (hbw.trans (hk1.mono hsz)|>.mono (by omega)))
              · by_cases h0 : k = 1
                · subst h0
                  obtain rfl : z = 1 := by omega
                  have hr1 := Lib.hid (h1 (by omega))
                  clear hz0 h1 h2 h3
                  replace hown : wr.ownsRow W.heap.size 5 1 u8 16 (u8C (inqK v p r true 1)) := hown
                  have hix := ix_1 v p r
                  have hP : ∀ w, _ := fun w => printable_any p w
                  have hF : ∀ w, _ := fun w => suffix_any p w (by omega)
                  cases hp : prL p.data.toList
                  · rw [hp] at hP
                    have hr : rightL p.data.toList = false := by simp [rightL, hp]
                    replace hr := Lib.hid hr
                    replace hp := Lib.hid hp
                    go_wp2_with (go_at_call 35; refine (hP _).mono ?_; rintro e w1 ⟨rfl, hk1⟩)
                    go_ret2
                    exact einq_l (by simp [hr.out]) (hkW.trans (hbw.trans (hk1.mono hsz)|>.mono (by omega)))
                  · rw [hp] at hP
                    cases hf : Lib.hasSuffix p.data.toList [32]
                    · rw [hf] at hF
                      have hr : rightL p.data.toList = true := by simp [rightL, hp, hf]
                      replace hr := Lib.hid hr
                      replace hp := Lib.hid hp
                      replace hf := Lib.hid hf
                      go_upto_region 16 with (first
                        | (go_at_call 35; refine (hP _).mono ?_; rintro e w1 ⟨rfl, hk1⟩)
                        | (go_at_call 36; refine (hF _).mono ?_; rintro e w2 ⟨rfl, rfl⟩))
                      have hbq := hbw.trans (hk1.mono hsz)
                      obtain ⟨hcq, hfq⟩ := bcell hbq
                      have hsq : W.heap.size ≤ w1.heap.size := hbq.size
                      have hownD : w1.drew.ownsRow W.heap.size 5 1 u8 16 (u8C (inqK v p r true 1)) := own_kept (own_kept hown hk1) (Below.refl _ _).drew
                      clear hown
                      have hmw0 : IntKind.i64.wrap (16 - (p.size : Int)) = 16 - (p.size : Int) := IntWalk.i64_in _ ⟨by omega, by omega⟩
                      obtain ⟨m, hm, hmw⟩ : ∃ m : Nat, m = 16 - p.size ∧ IntKind.i64.wrap (16 - (p.size : Int)) = (m : Int) := by
                        refine ⟨16 - p.size, rfl, hmw0.trans ?_⟩
                        clear hmw0
                        omega
                      clear hmw0
                      have hmn : 16 + p.size + m = 32 := by omega
                      have hml : inqK v p r true 1 ++ p.data.toList ++ List.replicate m 32 = inqK v p r true (1 + 1) := by
                        rw [hm]
                        simp [inqK, inqL, padL, List.append_assoc]
                      have hm100 : m ≤ 100 := by omega
                      have hs100 : p.size ≤ 100 := by omega
                      replace hm := Lib.hid hm
                      replace hmn := Lib.hid hmn
                      replace hml := Lib.hid hml
                      refine wp_region_held_drew (S := fun w' => (∀ b o, b < W.heap.size → w'.cell? ⟨b, o, none⟩ = W.cell? ⟨b, o, none⟩) ∧ Below W.heap.size W w') (by kernel_rfl) ⟨hcq, hbq.drew⟩ (fun hS => ?_)
                      refine wpAnyH_take (i := 0) (v := ?_) rfl (by kernel_rfl) (by kernel_rfl) (by kernel_rfl) (fun _ _ _ h => h) (Or.inl ⟨by kernel_rfl, ?_⟩) hS ?_
                      rotate_left
                      · intro w' hS'
                        have hq := hS'.1
                        have hq2 := hS'.2
                        clear hS'
                        first | (go_simp; done) | (go_simp; with_reducible rfl)
                      try simp only [Act.put, List.getElem_toArray, List.getElem_cons_zero, List.getElem_cons_succ, List.setIfInBounds_toArray, List.set_cons_zero, List.set_cons_succ]
                      refine wpAnyH_take (i := 1) (v := ?_) rfl (by kernel_rfl) (by kernel_rfl) (by kernel_rfl) (fun _ _ _ h => h) (Or.inl ⟨by kernel_rfl, ?_⟩) hS ?_
                      rotate_left
                      · intro w' hS'
                        have hq := hS'.1
                        have hq2 := hS'.2
                        clear hS'
                        first | (go_simp; done) | (go_simp; with_reducible rfl)
                      try simp only [Act.put, List.getElem_toArray, List.getElem_cons_zero, List.getElem_cons_succ, List.setIfInBounds_toArray, List.set_cons_zero, List.set_cons_succ]
                      refine wpAnyH_take (i := 3) (v := ?_) rfl (by kernel_rfl) (by kernel_rfl) (by kernel_rfl) (fun _ _ _ h => h) (Or.inl ⟨by kernel_rfl, ?_⟩) hS ?_
                      rotate_left
                      · intro w' hS'
                        have hq := hS'.1
                        have hq2 := hS'.2
                        clear hS'
                        first | (go_simp; done) | (go_simp; with_reducible rfl)
                      try simp only [Act.put, List.getElem_toArray, List.getElem_cons_zero, List.getElem_cons_succ, List.setIfInBounds_toArray, List.set_cons_zero, List.set_cons_succ]
                      refine wpAnyH_take (i := 4) (v := ?_) rfl (by kernel_rfl) (by kernel_rfl) (by kernel_rfl) (fun _ _ _ h => h) (Or.inl ⟨by kernel_rfl, ?_⟩) hS ?_
                      rotate_left
                      · intro w' hS'
                        have hq := hS'.1
                        have hq2 := hS'.2
                        clear hS'
                        first | (go_simp; done) | (go_simp; with_reducible rfl)
                      try simp only [Act.put, List.getElem_toArray, List.getElem_cons_zero, List.getElem_cons_succ, List.setIfInBounds_toArray, List.set_cons_zero, List.set_cons_succ]
                      refine wpAnyH_take (i := 5) (v := ?_) rfl (by kernel_rfl) (by kernel_rfl) (by kernel_rfl) (fun _ _ _ h => h) (Or.inl ⟨by kernel_rfl, ?_⟩) hS ?_
                      rotate_left
                      · intro w' hS'
                        have hq := hS'.1
                        have hq2 := hS'.2
                        clear hS'
                        first | (go_simp; done) | (go_simp; with_reducible rfl)
                      try simp only [Act.put, List.getElem_toArray, List.getElem_cons_zero, List.getElem_cons_succ, List.setIfInBounds_toArray, List.set_cons_zero, List.set_cons_succ]
                      refine wpAnyH_take (i := 6) (v := ?_) rfl (by kernel_rfl) (by kernel_rfl) (by kernel_rfl) (fun _ _ _ h => h) (Or.inl ⟨by kernel_rfl, ?_⟩) hS ?_
                      rotate_left
                      · intro w' hS'
                        have hq := hS'.1
                        have hq2 := hS'.2
                        clear hS'
                        first | (go_simp; done) | (go_simp; with_reducible rfl)
                      try simp only [Act.put, List.getElem_toArray, List.getElem_cons_zero, List.getElem_cons_succ, List.setIfInBounds_toArray, List.set_cons_zero, List.set_cons_succ]
                      refine wpAnyH_take (i := 7) (v := ?_) rfl (by kernel_rfl) (by kernel_rfl) (by kernel_rfl) (fun _ _ _ h => h) (Or.inl ⟨by kernel_rfl, ?_⟩) hS ?_
                      rotate_left
                      · intro w' hS'
                        have hq := hS'.1
                        have hq2 := hS'.2
                        clear hS'
                        first | (go_simp; done) | (go_simp; with_reducible rfl)
                      try simp only [Act.put, List.getElem_toArray, List.getElem_cons_zero, List.getElem_cons_succ, List.setIfInBounds_toArray, List.set_cons_zero, List.set_cons_succ]
                      refine wpAnyH_take (i := 8) (v := ?_) rfl (by kernel_rfl) (by kernel_rfl) (by kernel_rfl) (fun _ _ _ h => h) (Or.inl ⟨by kernel_rfl, ?_⟩) hS ?_
                      rotate_left
                      · intro w' hS'
                        have hq := hS'.1
                        have hq2 := hS'.2
                        clear hS'
                        first | (go_simp; done) | (go_simp; with_reducible rfl)
                      try simp only [Act.put, List.getElem_toArray, List.getElem_cons_zero, List.getElem_cons_succ, List.setIfInBounds_toArray, List.set_cons_zero, List.set_cons_succ]
                      refine wpAnyH_ready (rs := [2]) (by kernel_rfl) (by simp) ?_
                      refine AllReadyH.cons rfl (fun K hK => ?_) AllReadyH.nil
                      rw [if_pos (by kernel_rfl)]
                      refine wp_append_str (.tmp 48) (.tmp 49) rfl W.heap.size _ 16 _ rfl hownD p rfl (by omega) hsq ?_
                      intro v2 w2 hown2 hb2
                      have hb3 := hS.2.trans hb2
                      refine hK.out _ _ ?_ (fun hS => ?_)
                      · exact ⟨(bcell hb3).1, hb3⟩
                      clear hK K
                      try simp only [Act.put, List.getElem_toArray, List.getElem_cons_zero, List.getElem_cons_succ, List.setIfInBounds_toArray, List.set_cons_zero, List.set_cons_succ]
                      refine wpAnyH_ready (rs := [9]) (by kernel_rfl) (by simp) ?_
                      refine AllReadyH.cons rfl (fun K hK => ?_) AllReadyH.nil
                      go_simp
                      go_at_call 37
                      refine (rep_any m _ hm100).mono ?_
                      rintro e w3 ⟨rfl, hk3⟩
                      try dsimp only
                      have hb4 := hb3.trans (hk3.mono hb3.size)
                      refine hK.out _ _ ?_ (fun hS => ?_)
                      · exact ⟨(bcell hb4).1, hb4⟩
                      clear hK K
                      try simp only [Act.put, List.getElem_toArray, List.getElem_cons_zero, List.getElem_cons_succ, List.setIfInBounds_toArray, List.set_cons_zero, List.set_cons_succ]
                      refine wpAnyH_ready (rs := [10]) (by kernel_rfl) (by simp) ?_
                      refine AllReadyH.cons rfl (fun K hK => ?_) AllReadyH.nil
                      rw [if_pos (by kernel_rfl)]
                      refine wp_append_str (.tmp 50) (.tmp 57) rfl W.heap.size v2 (16 + p.size) _ rfl (own_kept hown2 hk3) ⟨(List.replicate m (32 : UInt8)).toArray⟩ rfl (by rw [rep_size]; omega) hb4.size ?_
                      intro v5 w5 hown5 hb5
                      replace hb5 := hb4.trans hb5
                      refine hK.out _ _ ?_ (fun hS => ?_)
                      · exact ⟨(bcell hb5).1, hb5⟩
                      clear hK K
                      try simp only [Act.put, List.getElem_toArray, List.getElem_cons_zero, List.getElem_cons_succ, List.setIfInBounds_toArray, List.set_cons_zero, List.set_cons_succ]
                      rw [rep_size, hmn.out, show (⟨(List.replicate m (32 : UInt8)).toArray⟩ : ByteArray).data.toList = List.replicate m 32 from rfl, hml.out] at hown5
                      refine wpAnyH_take (i := 11) (v := ?_) rfl (by kernel_rfl) (by kernel_rfl) (by kernel_rfl) (fun _ _ _ h => h) (Or.inl ⟨by kernel_rfl, ?_⟩) hS ?_
                      rotate_left
                      · intro w' hS'
                        have hq := hS'.1
                        have hq2 := hS'.2
                        clear hS'
                        first | (go_simp; done) | (go_simp; with_reducible rfl)
                      try simp only [Act.put, List.getElem_toArray, List.getElem_cons_zero, List.getElem_cons_succ, List.setIfInBounds_toArray, List.set_cons_zero, List.set_cons_succ]
                      refine wpAnyH_done (by kernel_rfl) ?_ _
                      clear hcq hfq hown2 hownD
                      go_wp2_with fail
                      go_roundg (gk - 1)
                      case measure => omega
                      case rel => exact ⟨1 + 1, 1 + 1, by omega, by omega, by go_num, hown5, hb5, fun _ => hr1.out, fun _ => hr.out, by omega⟩
                    · rw [hf] at hF
                      have hr : rightL p.data.toList = false := by simp [rightL, hp, hf]
                      replace hr := Lib.hid hr
                      replace hp := Lib.hid hp
                      replace hf := Lib.hid hf
                      go_wp2_with (first
                        | (go_at_call 35; refine (hP _).mono ?_; rintro e w1 ⟨rfl, hk1⟩)
                        | (go_at_call 36; refine (hF _).mono ?_; rintro e w2 ⟨rfl, rfl⟩))
                      go_ret2
                      exact einq_l (by simp [hr.out]) (hkW.trans (hbw.trans (hk1.mono hsz)|>.mono (by omega)))
                · by_cases h0 : k = 2
                  · subst h0
                    obtain rfl : z = 2 := by omega
                    have hr1 := Lib.hid (h1 (by omega))
                    have hr2 := Lib.hid (h2 (by omega))
                    clear hz0 h1 h2 h3
                    replace hown : wr.ownsRow W.heap.size 5 1 u8 32 (u8C (inqK v p r true 2)) := hown
                    have hix := ix_2 v p r
                    have hP : ∀ w, _ := fun w => printable_any r w
                    have hF : ∀ w, _ := fun w => suffix_any r w (by omega)
                    cases hp : prL r.data.toList
                    · rw [hp] at hP
                      have hr : rightL r.data.toList = false := by simp [rightL, hp]
                      replace hr := Lib.hid hr
                      replace hp := Lib.hid hp
                      go_wp2_with (go_at_call 35; refine (hP _).mono ?_; rintro e w1 ⟨rfl, hk1⟩)
                      go_ret2
                      exact einq_l (by simp [hr.out]) (hkW.trans (hbw.trans (hk1.mono hsz)|>.mono (by omega)))
                    · rw [hp] at hP
                      cases hf : Lib.hasSuffix r.data.toList [32]
                      · rw [hf] at hF
                        have hr : rightL r.data.toList = true := by simp [rightL, hp, hf]
                        replace hr := Lib.hid hr
                        replace hp := Lib.hid hp
                        replace hf := Lib.hid hf
                        go_upto_region 16 with (first
                          | (go_at_call 35; refine (hP _).mono ?_; rintro e w1 ⟨rfl, hk1⟩)
                          | (go_at_call 36; refine (hF _).mono ?_; rintro e w2 ⟨rfl, rfl⟩))
                        have hbq := hbw.trans (hk1.mono hsz)
                        obtain ⟨hcq, hfq⟩ := bcell hbq
                        have hsq : W.heap.size ≤ w1.heap.size := hbq.size
                        have hownD : w1.drew.ownsRow W.heap.size 5 1 u8 32 (u8C (inqK v p r true 2)) := own_kept (own_kept hown hk1) (Below.refl _ _).drew
                        clear hown
                        have hmw0 : IntKind.i64.wrap (4 - (r.size : Int)) = 4 - (r.size : Int) := IntWalk.i64_in _ ⟨by omega, by omega⟩
                        obtain ⟨m, hm, hmw⟩ : ∃ m : Nat, m = 4 - r.size ∧ IntKind.i64.wrap (4 - (r.size : Int)) = (m : Int) := by
                          refine ⟨4 - r.size, rfl, hmw0.trans ?_⟩
                          clear hmw0
                          omega
                        clear hmw0
                        have hmn : 32 + r.size + m = 36 := by omega
                        have hml : inqK v p r true 2 ++ r.data.toList ++ List.replicate m 32 = inqK v p r true (2 + 1) := by
                          rw [hm]
                          simp [inqK, inqL, padL, List.append_assoc]
                        have hm100 : m ≤ 100 := by omega
                        have hs100 : r.size ≤ 100 := by omega
                        replace hm := Lib.hid hm
                        replace hmn := Lib.hid hmn
                        replace hml := Lib.hid hml
                        refine wp_region_held_drew (S := fun w' => (∀ b o, b < W.heap.size → w'.cell? ⟨b, o, none⟩ = W.cell? ⟨b, o, none⟩) ∧ Below W.heap.size W w') (by kernel_rfl) ⟨hcq, hbq.drew⟩ (fun hS => ?_)
                        refine wpAnyH_take (i := 0) (v := ?_) rfl (by kernel_rfl) (by kernel_rfl) (by kernel_rfl) (fun _ _ _ h => h) (Or.inl ⟨by kernel_rfl, ?_⟩) hS ?_
                        rotate_left
                        · intro w' hS'
                          have hq := hS'.1
                          have hq2 := hS'.2
                          clear hS'
                          first | (go_simp; done) | (go_simp; with_reducible rfl)
                        try simp only [Act.put, List.getElem_toArray, List.getElem_cons_zero, List.getElem_cons_succ, List.setIfInBounds_toArray, List.set_cons_zero, List.set_cons_succ]
                        refine wpAnyH_take (i := 1) (v := ?_) rfl (by kernel_rfl) (by kernel_rfl) (by kernel_rfl) (fun _ _ _ h => h) (Or.inl ⟨by kernel_rfl, ?_⟩) hS ?_
                        rotate_left
                        · intro w' hS'
                          have hq := hS'.1
                          have hq2 := hS'.2
                          clear hS'
                          first | (go_simp; done) | (go_simp; with_reducible rfl)
                        try simp only [Act.put, List.getElem_toArray, List.getElem_cons_zero, List.getElem_cons_succ, List.setIfInBounds_toArray, List.set_cons_zero, List.set_cons_succ]
                        refine wpAnyH_take (i := 3) (v := ?_) rfl (by kernel_rfl) (by kernel_rfl) (by kernel_rfl) (fun _ _ _ h => h) (Or.inl ⟨by kernel_rfl, ?_⟩) hS ?_
                        rotate_left
                        · intro w' hS'
                          have hq := hS'.1
                          have hq2 := hS'.2
                          clear hS'
                          first | (go_simp; done) | (go_simp; with_reducible rfl)
                        try simp only [Act.put, List.getElem_toArray, List.getElem_cons_zero, List.getElem_cons_succ, List.setIfInBounds_toArray, List.set_cons_zero, List.set_cons_succ]
                        refine wpAnyH_take (i := 4) (v := ?_) rfl (by kernel_rfl) (by kernel_rfl) (by kernel_rfl) (fun _ _ _ h => h) (Or.inl ⟨by kernel_rfl, ?_⟩) hS ?_
                        rotate_left
                        · intro w' hS'
                          have hq := hS'.1
                          have hq2 := hS'.2
                          clear hS'
                          first | (go_simp; done) | (go_simp; with_reducible rfl)
                        try simp only [Act.put, List.getElem_toArray, List.getElem_cons_zero, List.getElem_cons_succ, List.setIfInBounds_toArray, List.set_cons_zero, List.set_cons_succ]
                        refine wpAnyH_take (i := 5) (v := ?_) rfl (by kernel_rfl) (by kernel_rfl) (by kernel_rfl) (fun _ _ _ h => h) (Or.inl ⟨by kernel_rfl, ?_⟩) hS ?_
                        rotate_left
                        · intro w' hS'
                          have hq := hS'.1
                          have hq2 := hS'.2
                          clear hS'
                          first | (go_simp; done) | (go_simp; with_reducible rfl)
                        try simp only [Act.put, List.getElem_toArray, List.getElem_cons_zero, List.getElem_cons_succ, List.setIfInBounds_toArray, List.set_cons_zero, List.set_cons_succ]
                        refine wpAnyH_take (i := 6) (v := ?_) rfl (by kernel_rfl) (by kernel_rfl) (by kernel_rfl) (fun _ _ _ h => h) (Or.inl ⟨by kernel_rfl, ?_⟩) hS ?_
                        rotate_left
                        · intro w' hS'
                          have hq := hS'.1
                          have hq2 := hS'.2
                          clear hS'
                          first | (go_simp; done) | (go_simp; with_reducible rfl)
                        try simp only [Act.put, List.getElem_toArray, List.getElem_cons_zero, List.getElem_cons_succ, List.setIfInBounds_toArray, List.set_cons_zero, List.set_cons_succ]
                        refine wpAnyH_take (i := 7) (v := ?_) rfl (by kernel_rfl) (by kernel_rfl) (by kernel_rfl) (fun _ _ _ h => h) (Or.inl ⟨by kernel_rfl, ?_⟩) hS ?_
                        rotate_left
                        · intro w' hS'
                          have hq := hS'.1
                          have hq2 := hS'.2
                          clear hS'
                          first | (go_simp; done) | (go_simp; with_reducible rfl)
                        try simp only [Act.put, List.getElem_toArray, List.getElem_cons_zero, List.getElem_cons_succ, List.setIfInBounds_toArray, List.set_cons_zero, List.set_cons_succ]
                        refine wpAnyH_take (i := 8) (v := ?_) rfl (by kernel_rfl) (by kernel_rfl) (by kernel_rfl) (fun _ _ _ h => h) (Or.inl ⟨by kernel_rfl, ?_⟩) hS ?_
                        rotate_left
                        · intro w' hS'
                          have hq := hS'.1
                          have hq2 := hS'.2
                          clear hS'
                          first | (go_simp; done) | (go_simp; with_reducible rfl)
                        try simp only [Act.put, List.getElem_toArray, List.getElem_cons_zero, List.getElem_cons_succ, List.setIfInBounds_toArray, List.set_cons_zero, List.set_cons_succ]
                        refine wpAnyH_ready (rs := [2]) (by kernel_rfl) (by simp) ?_
                        refine AllReadyH.cons rfl (fun K hK => ?_) AllReadyH.nil
                        rw [if_pos (by kernel_rfl)]
                        refine wp_append_str (.tmp 48) (.tmp 49) rfl W.heap.size _ 32 _ rfl hownD r rfl (by omega) hsq ?_
                        intro v2 w2 hown2 hb2
                        have hb3 := hS.2.trans hb2
                        refine hK.out _ _ ?_ (fun hS => ?_)
                        · exact ⟨(bcell hb3).1, hb3⟩
                        clear hK K
                        try simp only [Act.put, List.getElem_toArray, List.getElem_cons_zero, List.getElem_cons_succ, List.setIfInBounds_toArray, List.set_cons_zero, List.set_cons_succ]
                        refine wpAnyH_ready (rs := [9]) (by kernel_rfl) (by simp) ?_
                        refine AllReadyH.cons rfl (fun K hK => ?_) AllReadyH.nil
                        go_simp
                        go_at_call 37
                        refine (rep_any m _ hm100).mono ?_
                        rintro e w3 ⟨rfl, hk3⟩
                        try dsimp only
                        have hb4 := hb3.trans (hk3.mono hb3.size)
                        refine hK.out _ _ ?_ (fun hS => ?_)
                        · exact ⟨(bcell hb4).1, hb4⟩
                        clear hK K
                        try simp only [Act.put, List.getElem_toArray, List.getElem_cons_zero, List.getElem_cons_succ, List.setIfInBounds_toArray, List.set_cons_zero, List.set_cons_succ]
                        refine wpAnyH_ready (rs := [10]) (by kernel_rfl) (by simp) ?_
                        refine AllReadyH.cons rfl (fun K hK => ?_) AllReadyH.nil
                        rw [if_pos (by kernel_rfl)]
                        refine wp_append_str (.tmp 50) (.tmp 57) rfl W.heap.size v2 (32 + r.size) _ rfl (own_kept hown2 hk3) ⟨(List.replicate m (32 : UInt8)).toArray⟩ rfl (by rw [rep_size]; omega) hb4.size ?_
                        intro v5 w5 hown5 hb5
                        replace hb5 := hb4.trans hb5
                        refine hK.out _ _ ?_ (fun hS => ?_)
                        · exact ⟨(bcell hb5).1, hb5⟩
                        clear hK K
                        try simp only [Act.put, List.getElem_toArray, List.getElem_cons_zero, List.getElem_cons_succ, List.setIfInBounds_toArray, List.set_cons_zero, List.set_cons_succ]
                        rw [rep_size, hmn.out, show (⟨(List.replicate m (32 : UInt8)).toArray⟩ : ByteArray).data.toList = List.replicate m 32 from rfl, hml.out] at hown5
                        refine wpAnyH_take (i := 11) (v := ?_) rfl (by kernel_rfl) (by kernel_rfl) (by kernel_rfl) (fun _ _ _ h => h) (Or.inl ⟨by kernel_rfl, ?_⟩) hS ?_
                        rotate_left
                        · intro w' hS'
                          have hq := hS'.1
                          have hq2 := hS'.2
                          clear hS'
                          first | (go_simp; done) | (go_simp; with_reducible rfl)
                        try simp only [Act.put, List.getElem_toArray, List.getElem_cons_zero, List.getElem_cons_succ, List.setIfInBounds_toArray, List.set_cons_zero, List.set_cons_succ]
                        refine wpAnyH_done (by kernel_rfl) ?_ _
                        clear hcq hfq hown2 hownD
                        go_wp2_with fail
                        go_roundg (gk - 1)
                        case measure => omega
                        case rel => exact ⟨2 + 1, 2 + 1, by omega, by omega, by go_num, hown5, hb5, fun _ => hr1.out, fun _ => hr2.out, fun _ => hr.out⟩
                      · rw [hf] at hF
                        have hr : rightL r.data.toList = false := by simp [rightL, hp, hf]
                        replace hr := Lib.hid hr
                        replace hp := Lib.hid hp
                        replace hf := Lib.hid hf
                        go_wp2_with (first
                          | (go_at_call 35; refine (hP _).mono ?_; rintro e w1 ⟨rfl, hk1⟩)
                          | (go_at_call 36; refine (hF _).mono ?_; rintro e w2 ⟨rfl, rfl⟩))
                        go_ret2
                        exact einq_l (by simp [hr.out]) (hkW.trans (hbw.trans (hk1.mono hsz)|>.mono (by omega)))
                  · obtain rfl : k = 3 := by omega
                    obtain rfl : z = 3 := by omega
                    have hr1 := Lib.hid (h1 (by omega))
                    have hr2 := Lib.hid (h2 (by omega))
                    have hr3 := Lib.hid (h3 (by omega))
                    clear hz0 h1 h2 h3
                    replace hown : wr.ownsRow W.heap.size 5 1 u8 (35 + 1) (u8C (inqK v p r true 3)) := hown
                    obtain ⟨g, cap, rfl, hg, hc1, hc2, hB⟩ := row_bs hown
                    replace hB := Lib.hid hB
                    clear hown
                    go_wp2_with (go_at_call 38; refine (clip_any g 0 (35 + 1) cap _ hc1 hc2).mono ?_; rintro e w9 ⟨rfl, hk9⟩)
                    go_ret2
                    exact .inr ⟨by rw [hr1.out, hr2.out, hr3.out]; rfl, g, rfl, by omega, hB.out.kept hk9, hkW.trans ((hbw.trans (hk9.mono hsz)).mono (by omega))⟩
end Go.Proofs.YtfojemocffelhaaDoor
/- EncodeInquiry, whatever the texts; what the law's tests are. -/
namespace Go.Proofs.YtfojemocffelhaaDoor
open Go.RowKit Go.Shelf

/-- whether one of the texts is too long -/
def longB (v p r : ByteArray) : Bool := decide ((8 : Int) < v.size) || (decide ((16 : Int) < p.size) || decide ((4 : Int) < r.size))
/-- whether all of them stand in an inquiry -/
def allB (v p r : ByteArray) : Bool := rightL v.data.toList && rightL p.data.toList && rightL r.data.toList
/-- the error of an inquiry -/
def errI (v p r : ByteArray) : Int := if longB v p r then 3 else if allB v p r then 0 else 4
theorem long_iff {v p r : ByteArray} : longB v p r = true ↔ 8 < v.size ∨ 16 < p.size ∨ 4 < r.size := by
  simp only [longB, Bool.or_eq_true, decide_eq_true_eq]
  omega
def EinqF (v p r : ByteArray) (rem : Bool) (w w' : World) (A : Option Addr) (N : Nat) : Prop :=
  (errI v p r = 0 → ∃ g, A = some ⟨g, 0, none⟩ ∧ N = 36 ∧ w.heap.size ≤ g ∧ Bs w' g 0 (inqL v.data.toList p.data.toList r.data.toList rem)) ∧ (errI v p r ≠ 0 → N = 0)
theorem einq_all (v p r : ByteArray) (rem : Bool) (w : World) :
    Calls Tryd.prog 21 #[.agg #[.string v, .string p, .string r, .bool rem]] w fun e w' => ∃ A N, e = .returned (.tuple #[.slice A N N, .int .i64 (errI v p r)]) ∧ EinqF v p r rem w w' A N ∧ Kept w w' := by
  by_cases h : 8 < v.size ∨ 16 < p.size ∨ 4 < r.size
  · have hE : errI v p r = 3 := by rw [errI, if_pos (long_iff.2 h)]
    refine (einq_long v p r rem w h).mono ?_
    rintro e w' ⟨rfl, hk⟩
    exact ⟨none, 0, by rw [hE], ⟨fun h0 => by rw [hE] at h0; omega, fun _ => rfl⟩, hk⟩
  · have hl : longB v p r = false := by rw [← Bool.not_eq_true, long_iff]; exact h
    refine (einq_any v p r rem w (by omega) (by omega) (by omega)).mono ?_
    rintro e w' (⟨ha, rfl, hk⟩ | ⟨ha, g, rfl, hg, hB, hk⟩)
    · have hE : errI v p r = 4 := by
        have ha : allB v p r = false := ha
        simp [errI, hl, ha]
      exact ⟨none, 0, by rw [hE], ⟨fun h0 => by rw [hE] at h0; omega, fun _ => rfl⟩, hk⟩
    · have hE : errI v p r = 0 := by
        have ha : allB v p r = true := ha
        simp [errI, hl, ha]
      exact ⟨_, 36, by rw [hE], ⟨fun _ => ⟨g, rfl, rfl, hg, hB⟩, fun h0 => absurd hE h0⟩, hk⟩
/-- what holds if there is no error -/
theorem err_zero {v p r : ByteArray} (h : errI v p r = 0) : v.size ≤ 8 ∧ p.size ≤ 16 ∧ r.size ≤ 4 ∧ rightL v.data.toList = true ∧ rightL p.data.toList = true ∧ rightL r.data.toList = true := by
  unfold errI at h
  split at h
  · omega
  · rename_i hl
    rw [long_iff] at hl
    split at h
    · rename_i ha
      simp only [allB, Bool.and_eq_true] at ha
      exact ⟨by omega, by omega, by omega, ha.1.1, ha.1.2, ha.2⟩
    · omega
theorem right_parts {l : List UInt8} (h : rightL l = true) : prL l = true ∧ Lib.hasSuffix l [32] = false := by
  simpa [rightL] using h
theorem str_back (s : ByteArray) : (⟨s.data.toList.toArray⟩ : ByteArray) = s := by simp
/-- DecodeInquiry gives the inquiry again -/
theorem dinq_own (v p r : ByteArray) (rem : Bool) (w : World) (g : Nat) (hE : errI v p r = 0) (hB : Bs w g 0 (inqL v.data.toList p.data.toList r.data.toList rem)) :
    Calls Tryd.prog 23 #[.slice (some ⟨g, 0, none⟩) 36 36] w fun e w' => e = .returned (.tuple #[.agg #[.string v, .string p, .string r, .bool rem], .int .i64 0]) ∧ Kept w w' := by
  obtain ⟨h1, h2, h3, h4, h5, h6⟩ := err_zero hE
  have l1 : v.data.toList.length ≤ 8 := by simpa using h1
  have l2 : p.data.toList.length ≤ 16 := by simpa using h2
  have l3 : r.data.toList.length ≤ 4 := by simpa using h3
  have hlen : (inqL v.data.toList p.data.toList r.data.toList rem).length = 36 := inq_len l1 l2 l3
  have h := dinq_ok g 0 36 36 _ (if rem then 128 else 0) w hlen (Nat.le_refl _) (Nat.le_refl _) hB (hB.2 0 0 rfl) rfl (pr_inq hlen (right_parts h4).1 (right_parts h5).1 (right_parts h6).1)
  rw [cut_v l1 (right_parts h4).2, cut_p l1 l2 (right_parts h5).2, cut_r l1 l2 l3 (right_parts h6).2, str_back, str_back, str_back] at h
  cases rem <;> exact h
end Go.Proofs.YtfojemocffelhaaDoor
