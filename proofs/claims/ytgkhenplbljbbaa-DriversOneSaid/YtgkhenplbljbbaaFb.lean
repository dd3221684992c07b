

/- A registry that is none; drivers are copied; New. The list reads as drivers. -/
import Derived.Test.YtgkhenplbljbbaaChecked
import Derived.Deep.RegionHeld3
import Derived.Deep.DrawnRows
import Derived.Deep.DeepCutAuto
import Derived.Deep.LoopGhost
import Derived.Outline
import Derived.Handy
import Derived.Deep.RegionLaw
import Derived.Test.YtgkhenplbljbbaaPc
import Derived.Test.YtgkhenplbljbbaaPd
import Derived.Test.YtgkhenplbljbbaaBu
import Derived.Test.YtgkhenplbljbbaaWe
import Derived.Test.YtgkhenplbljbbaaWh
import Derived.Test.YtgkhenplbljbbaaFa
set_option linter.unusedVariables false
set_option linter.unusedSimpArgs false
set_option linter.unusedSectionVars false
namespace Go.Proofs.Ytgkhenplbljbbaa
open Go.RowKit Go.Maps
attribute [local go_sem ↓] Go.wp_at_zero Go.wp_at_succ

theorem eqlNil (w : World) : (binOp .eql 87 (.map none) (.map none)).run Try.prog w = .ok (.bool true) w := by kernel_rfl
theorem eqlSome (bm : Nat) (w : World) : (binOp .eql 87 (.map (some bm)) (.map none)).run Try.prog w = .ok (.bool false) w := by kernel_rfl
theorem eqlRow (a : Addr) (n c : Nat) (w : World) : (binOp .eql 39 (.slice (some a) n c) (.slice none 0 0)).run Try.prog w = .ok (.bool false) w := by kernel_rfl
theorem eqlNone (n c : Nat) (w : World) : (binOp .eql 39 (.slice none n c) (.slice none 0 0)).run Try.prog w = .ok (.bool true) w := by kernel_rfl
/-- there is no registry -/
def NoReg (w : World) (v : Value) : Prop := v = .pointer none ∨ ∃ p, v = .pointer (some ⟨p, 0, none⟩) ∧ w.cell? ⟨p, 1, none⟩ = some (.map none)
theorem NoReg.kept {w w' : World} {v : Value} (h : NoReg w v) (hk : Kept w w') : NoReg w' v := by
  rcases h with h | ⟨p, h1, h2⟩
  · exact .inl h
  · exact .inr ⟨p, h1, (hk.cell (p := ⟨p, 1, none⟩) (World.block_lt_of_cell? _ _ h2)).trans h2⟩
set_option maxRecDepth 100000 in
theorem none_any (v : Value) (w : World) (h : NoReg w v) : Calls Try.prog 39 #[v] w fun e w' => e = .returned (.bool true) ∧ w = w' := by
  rcases h with rfl | ⟨p, rfl, hc⟩
  · go_enter Try.func39, Try.ntmps39
    go_wp2
    go_ret
    exact ⟨rfl, rfl⟩
  · have hE := eqlNil
    go_enter Try.func39, Try.ntmps39
    go_wp2
    go_ret
    exact ⟨rfl, rfl⟩
set_option maxRecDepth 100000 in
theorem attach_none (v : Value) (a vn p : Int) (A2 : Option Addr) (m c2 : Nat) (cur : Int) (w : World) (h : NoReg w v) :
    Calls Try.prog 25 #[v, .agg #[.int .u8 (a), .slice none 0 0, .int .u8 0, .int .u8 0, .int .u8 0, .int .u16 0, .int .u8 0, .int .u8 0, .int .u8 0, .int .u8 0, .int .u16 (vn), .int .u16 (p), .int .u16 0, .int .u8 0, .int .u8 0, .int .u8 0, .int .u8 0, .slice A2 m c2], .int .i64 cur] w fun e w' => e = .returned (.tuple #[.agg #[.int .u8 0, .slice none 0 0], .int .i64 2]) ∧ Kept w w' := by
  go_enter Try.func25, Try.ntmps25
  go_wp2_with (go_at_call 39; refine (none_any _ _ (h.kept (by go_grown))).mono ?_; rintro e w1 ⟨rfl, rfl⟩)
  refine bodyPost_ret (v := .tuple #[.agg #[.int .u8 0, .slice none 0 0], .int .i64 2]) (by simp [results, Try.results25, go_sem]) rfl ⟨rfl, by go_grown⟩
set_option maxRecDepth 100000 in
theorem detach_none (v : Value) (a : Int) (w : World) (h : NoReg w v) :
    Calls Try.prog 23 #[v, .int .u8 a] w fun e w' => e = .returned (.tuple #[.slice none 0 0, .int .i64 2]) ∧ w = w' := by
  go_enter Try.func23, Try.ntmps23
  go_wp2_with (go_at_call 39; refine (none_any _ _ h).mono ?_; rintro e w1 ⟨rfl, rfl⟩)
  go_ret2
  exact ⟨rfl, rfl⟩
set_option maxRecDepth 100000 in
theorem bound_none (v : Value) (a : Int) (w : World) (h : NoReg w v) :
    Calls Try.prog 26 #[v, .int .u8 a] w fun e w' => e = .returned (.slice none 0 0) ∧ w = w' := by
  go_enter Try.func26, Try.ntmps26
  go_wp2_with (go_at_call 39; refine (none_any _ _ h).mono ?_; rintro e w1 ⟨rfl, rfl⟩)
  go_ret
  exact ⟨rfl, rfl⟩
set_option maxRecDepth 100000 in
theorem of_none (v : Value) (s : ByteArray) (w : World) (h : NoReg w v) :
    Calls Try.prog 27 #[v, .string s] w fun e w' => e = .returned (.slice none 0 0) ∧ w = w' := by
  go_enter Try.func27, Try.ntmps27
  go_wp2_with (go_at_call 39; refine (none_any _ _ h).mono ?_; rintro e w1 ⟨rfl, rfl⟩)
  go_ret
  exact ⟨rfl, rfl⟩
theorem own_rule_new {w : World} {base n c : Nat} {A : Option Addr} {l : List Rule} (h : Own ruleT 43 base w (.slice A n c) n l) : Sl ruleT w (fun g => base ≤ g ∧ g < w.heap.size) A n l :=
  ⟨h.1, fun i x hx => by
    obtain ⟨b, off, cs, e, hb, hr, hc⟩ := h.sl.2 i x hx
    subst e
    exact ⟨b, off, cs, rfl, ⟨(h.lt rfl).1, hb⟩, hr, hc⟩⟩
set_option maxRecDepth 100000 in
set_option maxHeartbeats 1000000 in
theorem clone_any (A : Option Addr) (n c : Nat) (l : List Rule) (w : World) (hn : n ≤ 32) (hl : Sl ruleT w (low w.heap.size) A n l) :
    Calls Try.prog 49 #[.slice A n c] w fun e w' => ∃ A' c', e = .returned (.slice A' n c') ∧ n ≤ c' ∧ c' ≤ maxLen ∧ Sl ruleT w' (fun g => w.heap.size ≤ g ∧ g < w'.heap.size) A' n l ∧ Kept w w' := by
  obtain ⟨i3, hi3, hz30, hz31, hz32⟩ := info_parts info43
  cases A with
  | none =>
    have hn0 : n = 0 := by
      have h1 := hl.1
      cases l with
      | nil => simpa using h1.symm
      | cons x l =>
        obtain ⟨b, off, cs, e, _⟩ := hl.2 0 x rfl
        cases e
    subst hn0
    have hl0 : l = [] := List.eq_nil_of_length_eq_zero hl.1
    subst hl0
    have hE := eqlNone 0 c
    go_enter Try.func49, Try.ntmps49
    go_wp2
    go_ret
    exact ⟨none, 0, rfl, Nat.le_refl _, by decide, Sl.nil _ _ _ _, Below.refl _ _⟩
  | some a =>
    have hE := eqlRow a n c
    go_enter Try.func49, Try.ntmps49
    go_wp2_with (at_builtin; refine wpList_append_sl (T := ruleT) rfl (.tmp 5) (.tmp 6) 39 rfl w.heap.size 43 i3 _ 10 Try.underlying39 hi3 hz30 hz31 hz32 rfl (by decide) _ 0 [] (by rfl) (Own.lit0 ruleT 43 _ (Nat.le_refl _) (heap_at _ rfl)) _ n c l (by rfl) (hl.keep (fun b hb => ⟨by have : b < w.heap.size := hb; simp; omega, by have : b < w.heap.size := hb; simp [Value.ownBlock]; omega⟩) (fun b o hb => by have : b < w.heap.size := hb; exact ((Below.refl _ _).alloc (Nat.le_refl _) _ : Kept w _).cell (p := ⟨b, o, none⟩) this)) (by rintro r cs ⟨rfl, _⟩ u hu; simp [Rule.cells] at hu; rcases hu with rfl | rfl | rfl | rfl | rfl | rfl <;> rfl) (by unfold maxLen; omega) (by omega) (by simp) ?_; intro v7 w7 hown7 hg7 hb7 hat7)
    obtain ⟨A', c', rfl, hj1, hj2⟩ := hown7.isSlice
    rw [Nat.zero_add, List.nil_append] at hown7
    rw [Nat.zero_add] at hj1
    go_wp2
    go_ret
    exact ⟨A', c', by simp, hj1, hj2, own_rule_new hown7, Below.trans ((Below.refl _ _).alloc (Nat.le_refl _) _) hb7⟩
/-- drivers that are copied: the first k of n lie in block b -/
def Copied (w : World) (b n k : Nat) (l : List Drv) : Prop :=
  ∃ arr : Array Value, w.heap[b]? = some (.cells arr 41 (0, 0)) ∧ arr.size = n * 2 ∧ ∀ (j : Nat) (d : Drv), j < k → l[j]? = some d →
    ∃ A c, arr[j * 2]? = some (.string d.name) ∧ arr[j * 2 + 1]? = some (.slice A d.rules.length c) ∧ d.rules.length ≤ c ∧ c ≤ maxLen ∧ d.name.size ≤ maxLen ∧ Sl ruleT w (fun g => g < w.heap.size ∧ g ≠ b) A d.rules.length d.rules
theorem Copied.kept {w w' : World} {b n k : Nat} {l : List Drv} (h : Copied w b n k l) (hk : Kept w w') : Copied w' b n k l := by
  obtain ⟨arr, h1, h2, h3⟩ := h
  refine ⟨arr, heap_kept hk h1, h2, fun j d hj hd => ?_⟩
  obtain ⟨A, c, a1, a2, a3, a4, a5, a6⟩ := h3 j d hj hd
  exact ⟨A, c, a1, a2, a3, a4, a5, a6.keep (fun g hg => ⟨Nat.lt_of_lt_of_le hg.1 hk.size, hg.2⟩) (fun g o hg => hk.cell (p := ⟨g, o, none⟩) hg.1)⟩
theorem Copied.cell {w : World} {b n k o : Nat} {l : List Drv} (h : Copied w b n k l) (ho : o < n * 2) : ∃ v, w.cell? ⟨b, o, none⟩ = some v ∧ w.frozen? ⟨b, o, none⟩ = false := by
  obtain ⟨arr, h1, h2, _⟩ := h
  exact ⟨arr[o], cell_heap h1 (Array.getElem?_eq_getElem (by omega)), frozen_heap h1⟩
theorem Copied.store {w : World} {b n k : Nat} {l : List Drv} {d : Drv} {A : Option Addr} {c : Nat} (h : Copied w b n k l) (hk : k < n) (hd : l[k]? = some d) (h1 : d.rules.length ≤ c) (h2 : c ≤ maxLen) (h3 : d.name.size ≤ maxLen)
    (hs : Sl ruleT w (fun g => g < w.heap.size ∧ g ≠ b) A d.rules.length d.rules) : Copied ((w.setCell ⟨b, k * 2, none⟩ (.string d.name)).setCell ⟨b, k * 2 + 1, none⟩ (.slice A d.rules.length c)) b n (k + 1) l := by
  obtain ⟨arr, g1, g2, g3⟩ := h
  have hcell : ∀ g o, g ≠ b → ((w.setCell ⟨b, k * 2, none⟩ (.string d.name)).setCell ⟨b, k * 2 + 1, none⟩ (.slice A d.rules.length c)).cell? ⟨g, o, none⟩ = w.cell? ⟨g, o, none⟩ := fun g o hg => by
    rw [World.cell?_setCell_other _ _ _ _ (fun e => hg (congrArg Addr.block e).symm), World.cell?_setCell_other _ _ _ _ (fun e => hg (congrArg Addr.block e).symm)]
  have hsz : ((w.setCell ⟨b, k * 2, none⟩ (.string d.name)).setCell ⟨b, k * 2 + 1, none⟩ (.slice A d.rules.length c)).heap.size = w.heap.size := by rw [World.size_setCell, World.size_setCell]
  refine ⟨_, heap_store (heap_store g1 _) _, by simp [g2], fun j e hj he => ?_⟩
  by_cases hjk : j = k
  · subst hjk
    rw [hd] at he
    injection he with he
    subst he
    refine ⟨A, c, ?_, ?_, h1, h2, h3, ?_⟩
    · simp [Array.getElem?_setIfInBounds]; omega
    · simp [Array.getElem?_setIfInBounds]; omega
    · exact hs.keep (fun g hg => ⟨by rw [hsz]; exact hg.1, hg.2⟩) (fun g o hg => hcell g o hg.2)
  · obtain ⟨A2, c2, a1, a2, a3, a4, a5, a6⟩ := g3 j e (by omega) he
    refine ⟨A2, c2, ?_, ?_, a3, a4, a5, ?_⟩
    · rw [Array.getElem?_setIfInBounds, if_neg (by omega), Array.getElem?_setIfInBounds, if_neg (by omega)]; exact a1
    · rw [Array.getElem?_setIfInBounds, if_neg (by omega), Array.getElem?_setIfInBounds, if_neg (by omega)]; exact a2
    · exact a6.keep (fun g hg => ⟨by rw [hsz]; exact hg.1, hg.2⟩) (fun g o hg => hcell g o hg.2)
theorem Copied.sl {w : World} {b n : Nat} {l : List Drv} (h : Copied w b n n l) (hl : l.length = n) : Sl drvT w (low w.heap.size) (some ⟨b, 0, none⟩) n l := by
  obtain ⟨arr, h1, h2, h3⟩ := h
  refine ⟨hl, fun j d hd => ?_⟩
  have hj : j < n := by rw [← hl]; exact (List.getElem?_eq_some_iff.1 hd).1
  obtain ⟨A, c, a1, a2, a3, a4, a5, a6⟩ := h3 j d hj hd
  refine ⟨b, 0, _, rfl, heap_lt h1, ⟨A, c, rfl, a3, a4, a5, a6.keep (fun g hg => hg.1) (fun _ _ _ => rfl)⟩, range_cons ?_ (range_cons ?_ range_nil)⟩
  · rw [Nat.zero_add]; exact cell_heap h1 a1
  · rw [Nat.zero_add]; exact cell_heap h1 a2
set_option maxRecDepth 100000 in
set_option maxHeartbeats 2000000 in
theorem copied_any (A : Option Addr) (n c : Nat) (l : List Drv) (w : World) (hn : n ≤ 64) (hl : Sl drvT w (low w.heap.size) A n l) (hr : ∀ d ∈ l, d.rules.length ≤ 32) :
    Calls Try.prog 38 #[.slice A n c] w fun e w' => ∃ b, e = .returned (.slice (some ⟨b, 0, none⟩) n n) ∧ Sl drvT w' (low w'.heap.size) (some ⟨b, 0, none⟩) n l ∧ Kept w w' := by
  obtain ⟨i1, hi1, hz10, hz11, hz12⟩ := info_parts info41
  have hmk := fun W => run_make (P := Try.prog) W 24 41 i1 _ Try.underlying24 hi1 hz10 .i64 .i64 n n (by omega) (by omega) (by rw [hz12]; omega) (by omega)
  rw [hz11] at hmk
  simp only [Int.toNat_natCast] at hmk
  obtain ⟨arr, harr, hasz⟩ : ∃ arr, madeCells (Value.agg #[.string ByteArray.empty, .slice none 0 0]).cells (n * 2) = arr ∧ arr.size = n * 2 := ⟨_, rfl, size_madeCells _ _⟩
  rw [harr] at hmk
  clear harr
  go_enter Try.func38, Try.ntmps38
  go_wp2_with fail
  refine wp_at (fun W => Copied W w.heap.size n 0 l ∧ Kept w W) ⟨⟨arr, heap_at _ rfl, hasz, fun j d hj => by omega⟩, by go_grown⟩ (fun W hW => ?_)
  clear hmk hasz
  go_loopg [11] n (fun g s11 wr => ∃ k : Nat, k + g = n ∧ s11 = .int .i64 k ∧ Copied wr w.heap.size n k l ∧ Kept w wr)
  case atStart => exact ⟨0, by omega, rfl, hW.1, hW.2⟩
  case round =>
    clear hW
    obtain ⟨k, hk, rfl, HC, hkw⟩ := hrel
    have Hk := hide hk
    clear hk
    by_cases hlt : k < n
    · obtain ⟨d, b, off, A', c', hd, rfl, hbw, hbr, hc1, hc2, hns, hd0, hd1, hrs⟩ := drv_at hl hkw hlt
      have hlt' : (k : Int) < (n : Int) := by omega
      have hk0 : (0 : Int) ≤ (k : Int) := by omega
      have hr32 : d.rules.length ≤ 32 := hr d (List.mem_of_getElem? hd)
      have Hd := hide hd
      clear hd
      have HCh := hide HC
      clear HC
      go_upto_region 5 with (fail)
      refine wp_at (fun W2 => W2.heap[wr.heap.size]? = some (.cells #[.string d.name, .slice A' d.rules.length c'] 41 (0, 0)) ∧ Copied W2 w.heap.size n k l ∧ Kept wr W2) ⟨heap_at _ rfl, HCh.out.kept ((Below.refl _ _).alloc (Nat.le_refl _) _), by go_grown⟩ (fun W2 hW2 => ?_)
      obtain ⟨HB, HC2, hk2⟩ := hW2
      have hbx : w.heap.size < W2.heap.size := by obtain ⟨_, h1, _⟩ := HC2; exact heap_lt h1
      have hcb : wr.heap.size ≠ w.heap.size := by obtain ⟨_, h1, _⟩ := HCh.out; have := heap_lt h1; omega
      have c0 := cell_heap HB (o := 0) rfl
      have c1 := cell_heap HB (o := 1) rfl
      have hbl := heap_lt HB
      have hrs2 := hrs
      have hkw2 : Kept w W2 := hkw.trans (hk2.mono (by have := hkw.size; omega))
      refine wp_region_held_drew (S := But W2 w.heap.size) (by kernel_rfl) But.start (fun hS => ?_)
      refine wpAnyH_take (i := 0) (v := ?_) rfl (by kernel_rfl) (by kernel_rfl) (by kernel_rfl) (fun _ _ _ h => h) (Or.inl ⟨by kernel_rfl, ?_⟩) hS ?_
      rotate_left
      · intro w' hS'
        have hq := hS'.1
        have hq2 := hS'.2
        clear hS'
        first | (go_simp; done) | (go_simp; with_reducible rfl)
      try simp only [Act.put, List.getElem_toArray, List.getElem_cons_zero, List.getElem_cons_succ, List.setIfInBounds_toArray, List.set_cons_zero, List.set_cons_succ]
      refine wpAnyH_take (i := 1) (v := ?_) rfl (by kernel_rfl) (by kernel_rfl) (by kernel_rfl) (fun _ _ _ h => h) (Or.inl ⟨by kernel_rfl, ?_⟩) hS ?_
      rotate_left
      · intro w' hS'
        have hq := hS'.1
        have hq2 := hS'.2
        clear hS'
        first | (go_simp; done) | (go_simp; with_reducible rfl)
      try simp only [Act.put, List.getElem_toArray, List.getElem_cons_zero, List.getElem_cons_succ, List.setIfInBounds_toArray, List.set_cons_zero, List.set_cons_succ]
      refine wpAnyH_take (i := 2) (v := ?_) rfl (by kernel_rfl) (by kernel_rfl) (by kernel_rfl) (fun _ _ _ h => h) (Or.inl ⟨by kernel_rfl, ?_⟩) hS ?_
      rotate_left
      · intro w' hS'
        have hq := hS'.1
        have hq2 := hS'.2
        clear hS'
        first | (go_simp; done) | (go_simp; with_reducible rfl)
      try simp only [Act.put, List.getElem_toArray, List.getElem_cons_zero, List.getElem_cons_succ, List.setIfInBounds_toArray, List.set_cons_zero, List.set_cons_succ]
      refine wpAnyH_take (i := 3) (v := ?_) rfl (by kernel_rfl) (by kernel_rfl) (by kernel_rfl) (fun _ _ _ h => h) (Or.inl ⟨by kernel_rfl, ?_⟩) hS ?_
      rotate_left
      · intro w' hS'
        have hq := hS'.1
        have hq2 := hS'.2
        clear hS'
        first | (go_simp; done) | (go_simp; with_reducible rfl)
      try simp only [Act.put, List.getElem_toArray, List.getElem_cons_zero, List.getElem_cons_succ, List.setIfInBounds_toArray, List.set_cons_zero, List.set_cons_succ]
      refine wpAnyH_take (i := 4) (v := ?_) rfl (by kernel_rfl) (by kernel_rfl) (by kernel_rfl) (fun _ _ _ h => h) (Or.inl ⟨by kernel_rfl, ?_⟩) hS ?_
      rotate_left
      · intro w' hS'
        have hq := hS'.1
        have hq2 := hS'.2
        clear hS'
        first | (go_simp; done) | (go_simp; with_reducible rfl)
      try simp only [Act.put, List.getElem_toArray, List.getElem_cons_zero, List.getElem_cons_succ, List.setIfInBounds_toArray, List.set_cons_zero, List.set_cons_succ]
      refine wpAnyH_take (i := 5) (v := ?_) rfl (by kernel_rfl) (by kernel_rfl) (by kernel_rfl) (fun _ _ _ h => h) (Or.inl ⟨by kernel_rfl, ?_⟩) hS ?_
      rotate_left
      · intro w' hS'
        have hq := hS'.1
        have hq2 := hS'.2
        clear hS'
        first | (go_simp; done) | (go_simp; with_reducible rfl)
      try simp only [Act.put, List.getElem_toArray, List.getElem_cons_zero, List.getElem_cons_succ, List.setIfInBounds_toArray, List.set_cons_zero, List.set_cons_succ]
      refine wpAnyH_ready (rs := [6]) (by kernel_rfl) (by simp) ?_
      refine AllReadyH.cons rfl (fun K hK => ?_) AllReadyH.nil
      go_simp
      go_at_call 49
      refine (clone_any A' d.rules.length c' d.rules _ hr32 ((hrs.below hkw2.drew).more hkw2.size)).mono ?_
      rintro e w5 ⟨A5, c5, rfl, h51, h52, hs5, hk5⟩
      try dsimp only
      have k5 := hS.then (grown_any hk5)
      have HC5 := (HC2.kept (Below.refl _ _).drew).kept hk5
      refine hK.out _ _ ?_ (fun hS => ?_)
      · exact k5
      clear hK K k5
      try simp only [Act.put, List.getElem_toArray, List.getElem_cons_zero, List.getElem_cons_succ, List.setIfInBounds_toArray, List.set_cons_zero, List.set_cons_succ]
      refine wpAnyH_take (i := 7) (v := ?_) rfl (by kernel_rfl) (by kernel_rfl) (by kernel_rfl) (fun _ _ _ h => h) (Or.inl ⟨by kernel_rfl, ?_⟩) hS ?_
      rotate_left
      · intro w' hS'
        have hq := hS'.1
        have hq2 := hS'.2
        clear hS'
        first | (go_simp; done) | (go_simp; with_reducible rfl)
      try simp only [Act.put, List.getElem_toArray, List.getElem_cons_zero, List.getElem_cons_succ, List.setIfInBounds_toArray, List.set_cons_zero, List.set_cons_succ]
      refine wpAnyH_take (i := 8) (v := ?_) rfl (by kernel_rfl) (by kernel_rfl) (by kernel_rfl) (fun _ _ _ h => h) (Or.inl ⟨by kernel_rfl, ?_⟩) hS ?_
      rotate_left
      · intro w' hS'
        have hq := hS'.1
        have hq2 := hS'.2
        clear hS'
        first | (go_simp; done) | (go_simp; with_reducible rfl)
      try simp only [Act.put, List.getElem_toArray, List.getElem_cons_zero, List.getElem_cons_succ, List.setIfInBounds_toArray, List.set_cons_zero, List.set_cons_succ]
      have hs6 : Sl ruleT w5 (fun g => g < w5.heap.size ∧ g ≠ w.heap.size) A5 d.rules.length d.rules := hs5.keep (fun g hg => ⟨hg.2, by have h1 : W2.heap.size ≤ g := hg.1; omega⟩) (fun _ _ _ => rfl)
      have HST := HC5.store hlt Hd.out h51 h52 hns hs6
      obtain ⟨v0, q0, z0⟩ := HC5.cell (o := k * 2) (by omega)
      obtain ⟨v1, q1, z1⟩ := HC5.cell (o := k * 2 + 1) (by omega)
      refine wpAnyH_ready (rs := [9]) (by kernel_rfl) (by simp) ?_
      refine AllReadyH.cons rfl (fun K hK => ?_) AllReadyH.nil
      go_simp
      have hbS := hS.then (grown_at (grown_at grown_self (k * 2) (Value.string d.name)) (k * 2 + 1) (Value.slice A5 d.rules.length c5))
      generalize ((w5.setCell ⟨w.heap.size, k * 2, none⟩ (Value.string d.name)).setCell ⟨w.heap.size, k * 2 + 1, none⟩ (Value.slice A5 d.rules.length c5)) = w9 at *
      refine hK.out _ _ ?_ (fun hS => ?_)
      · exact hbS
      clear hK K hbS q0 z0 q1 z1
      refine wpAnyH_done (by kernel_rfl) ?_ _
      have hk9 : Kept w w9 := kept_but hkw2 hS.2 (Nat.le_refl _)
      clear hS c0 c1 hd0 hd1
      go_wp2_with fail
      go_roundg (gk - 1)
      case measure => have := Hk.out; omega
      case rel => exact ⟨k + 1, by have := Hk.out; omega, by go_num, HST, hk9⟩
    · have hkn : k = n := by have := Hk.out; omega
      have HCn := HC
      rw [hkn] at HCn
      have HS := hide (HCn.sl hl.1)
      clear hkn HC HCn
      go_wp2
      go_ret
      exact ⟨_, rfl, HS.out, hkw⟩
theorem check_zero {l : List Drv} (h : checkS l = 0) : l.length ≤ 64 ∧ ∀ d ∈ l, d.rules.length ≤ 32 := by
  unfold checkS at h
  split at h
  · exact absurd h (by decide)
  · rename_i h1
    simp only [Bool.or_eq_true, decide_eq_true_eq, List.any_eq_true, not_or, not_exists, not_and] at h1
    exact ⟨by omega, fun d hd => by have := h1.2 d hd; simp [Drv.many] at this; omega⟩
set_option maxRecDepth 100000 in
set_option maxHeartbeats 2000000 in
theorem new_bad (A : Option Addr) (n c : Nat) (l : List Drv) (w : World) (hn : n ≤ maxLen) (hl : Sl drvT w (low w.heap.size) A n l) (hz : checkS l ≠ 0) :
    Calls Try.prog 22 #[.slice A n c] w fun e w' => e = .returned (.tuple #[.pointer none, .int .i64 (checkS l)]) ∧ Kept w w' := by
  have HC := check_any A n c l w hn hl
  generalize checkS l = z at *
  have hb : (z != 0) = true := by simpa using hz
  clear hz
  go_enter Try.func22, Try.ntmps22
  go_wp2_with (go_at_call 16; refine HC.mono ?_; rintro e w1 ⟨rfl, hk⟩)
  go_ret2
  exact ⟨rfl, hk⟩
set_option maxRecDepth 100000 in
set_option maxHeartbeats 2000000 in
theorem new_good (A : Option Addr) (n c : Nat) (l : List Drv) (w : World) (hn : n ≤ maxLen) (hl : Sl drvT w (low w.heap.size) A n l) (hz : checkS l = 0) :
    Calls Try.prog 22 #[.slice A n c] w fun e w' => ∃ p b m, e = .returned (.tuple #[.pointer (some ⟨p, 0, none⟩), .int .i64 0]) ∧ w'.heap[p]? = some (.cells #[.slice (some ⟨b, 0, none⟩) n n, .map (some m)] 89 (0, 0)) ∧ w'.heap[m]? = some (.map #[] 0) ∧
      w.heap.size ≤ m ∧ Sl drvT w' (low w'.heap.size) (some ⟨b, 0, none⟩) n l ∧ Kept w w' := by
  have HC := check_any A n c l w hn hl
  rw [hz] at HC
  obtain ⟨h64, h32⟩ := check_zero hz
  rw [hl.1] at h64
  have hmm := @run_makeMap Try.prog
  go_enter Try.func22, Try.ntmps22
  go_wp2_with (first
    | (go_at_call 16; refine HC.mono ?_; rintro e w1 ⟨rfl, hk⟩)
    | (go_at_call 38; refine (copied_any A n c l _ h64 (hl.kept hk) h32).mono ?_; rintro e w2 ⟨b, rfl, hs2, hk2⟩))
  go_ret2
  refine ⟨_, b, _, rfl, heap_at _ (by simp), heap_past (heap_at _ rfl), (hk.trans' hk2).size, hs2.kept ?_, (hk.trans' hk2).trans' ?_⟩
  · go_grown
  · go_grown
end Go.Proofs.Ytgkhenplbljbbaa
