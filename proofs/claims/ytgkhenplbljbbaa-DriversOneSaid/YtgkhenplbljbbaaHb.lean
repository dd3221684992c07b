
/- A registry as data; Clip, Clone and Bound. The registry reads as data. -/
import Derived.Test.YtgkhenplbljbbaaChecked
import Derived.Deep.RegionHeld3
import Derived.Deep.DrawnRows
import Derived.Deep.DeepCutAuto
import Derived.Deep.LoopGhost
import Derived.Outline
import Derived.Handy
import Derived.OwnWalk
import Derived.Test.YtgkhenplbljbbaaHa
import Derived.Test.YtgkhenplbljbbaaFb
import Derived.Test.YtgkhenplbljbbaaMv
set_option linter.unusedVariables false
set_option linter.unusedSimpArgs false
set_option linter.unusedSectionVars false
namespace Go.Proofs.Ytgkhenplbljbbaa
open Go.RowKit Go.Maps Go.WideShapes
attribute [local go_sem ↓] Go.wp_at_zero Go.wp_at_succ

section
variable {α : Type} {t : Ty α}
theorem Sl.grown {w w' : World} {F F' : Nat → Prop} {A : Option Addr} {n : Nat} {xs : List α} {row : Option Nat} (h : Sl t w F A n xs) (hg : w.grownBy w' row) (hF : ∀ b, F b → b < w.heap.size ∧ some b ≠ row) (hF' : ∀ b, F b → F' b) : Sl t w' F' A n xs :=
  h.keep hF' (fun b o hb => World.cell?_of_block (a := ⟨b, o, none⟩) (hg.block b (hF b hb).1 (hF b hb).2))
end
/-- the blocks that are there, so X holds of them -/
def inX (w : World) (X : Nat → Prop) : Nat → Prop := fun b => b < w.heap.size ∧ X b
theorem inX_low {α : Type} {t : Ty α} {w : World} {X : Nat → Prop} {A : Option Addr} {n : Nat} {xs : List α} (h : Sl t w (inX w X) A n xs) : Sl t w (low w.heap.size) A n xs := h.keep (fun _ hb => hb.1) (fun _ _ _ => rfl)
theorem inX_grown {α : Type} {t : Ty α} {w w' : World} {X : Nat → Prop} {A : Option Addr} {n : Nat} {xs : List α} {row : Option Nat} (h : Sl t w (inX w X) A n xs) (hg : w.grownBy w' row) (hX : ∀ b, some b = row → ¬ X b) : Sl t w' (inX w' X) A n xs :=
  h.grown hg (fun b hb => ⟨hb.1, fun e => hX b e hb.2⟩) (fun b hb => ⟨Nat.lt_of_lt_of_le hb.1 hg.size, hb.2⟩)
theorem inX_kept {α : Type} {t : Ty α} {w w' : World} {X : Nat → Prop} {A : Option Addr} {n : Nat} {xs : List α} (h : Sl t w (inX w X) A n xs) (hk : Kept w w') : Sl t w' (inX w' X) A n xs :=
  inX_grown h (grown_of_kept hk none) (fun b e => by cases e)
/-- what stands at an address -/
def Look (w : World) (X : Nat → Prop) (o : Option Value) (s : Option (Int × List Int)) : Prop := match s with
  | none => o = none
  | some (q, L) => ∃ A, o = some (.agg #[.int .u8 q, .slice A L.length L.length]) ∧ Sl i64T w (inX w X) A L.length L
theorem Look.grown {w w' : World} {X : Nat → Prop} {o : Option Value} {s : Option (Int × List Int)} {row : Option Nat} (h : Look w X o s) (hg : w.grownBy w' row) (hX : ∀ b, some b = row → ¬ X b) : Look w' X o s := by
  cases s with
  | none => exact h
  | some c => obtain ⟨A, h1, h2⟩ := h; exact ⟨A, h1, inX_grown h2 hg hX⟩
/-- a registry: its variable G, its map m; a map of at most K entries -/
def Reg (w : World) (X : Nat → Prop) (G m nl : Nat) (l : List Drv) (K : Nat) (S : St) : Prop :=
  ∃ bd f, w.heap[G]? = some (.cells #[.slice (some ⟨bd, 0, none⟩) nl nl, .map (some m)] 89 (0, 0)) ∧ Sl drvT w (inX w X) (some ⟨bd, 0, none⟩) nl l ∧ MapIs Try.prog 5 w m K f ∧ ∀ n : Nat, n < 256 → Look w X (f (.int .u8 (n : Int))) (S n)
theorem Reg.grown {w w' : World} {X : Nat → Prop} {G m nl : Nat} {l : List Drv} {K : Nat} {S : St} {row : Option Nat} (h : Reg w X G m nl l K S) (hg : w.grownBy w' row) (hX : ∀ b, some b = row → ¬ X b) (hG : X G) (hm : some m ≠ row) : Reg w' X G m nl l K S := by
  obtain ⟨bd, f, h1, h2, h3, h4⟩ := h
  exact ⟨bd, f, (hg.block G (heap_lt h1) (fun e => hX G e hG)).trans h1, inX_grown h2 hg hX, h3.kept hg hm, fun n hn => (h4 n hn).grown hg hX⟩
theorem Reg.kept {w w' : World} {X : Nat → Prop} {G m nl : Nat} {l : List Drv} {K : Nat} {S : St} (h : Reg w X G m nl l K S) (hk : Kept w w') : Reg w' X G m nl l K S := by
  obtain ⟨bd, f, h1, h2, h3, h4⟩ := h
  exact ⟨bd, f, heap_kept hk h1, inX_kept h2 hk, h3.keep hk, fun n hn => (h4 n hn).grown (grown_of_kept hk none) (fun b e => by cases e)⟩

theorem info3b : (Try.prog.info? 3).map (fun i => (i.zero, i.size, i.bytes)) = some (some (.int .i64 0), 1, 8) := by kernel_rfl
theorem info82 : (Try.prog.info? 82).map (fun i => (i.zero, i.size, i.bytes)) = some (some (.agg #[.int .u8 0, .int .i64 0, .string ByteArray.empty]), 3, 32) := by kernel_rfl
theorem eqlRow61 (a : Addr) (n c : Nat) (w : World) : (binOp .eql 61 (.slice (some a) n c) (.slice none 0 0)).run Try.prog w = .ok (.bool false) w := by kernel_rfl
theorem eqlNone61 (n c : Nat) (w : World) : (binOp .eql 61 (.slice none n c) (.slice none 0 0)).run Try.prog w = .ok (.bool true) w := by kernel_rfl
theorem clip40 (A : Option Addr) (n c : Nat) (hn : n ≤ c) (hc : c ≤ maxLen) (w : World) : Calls Try.prog 40 #[.slice A n c] w fun e w' => e = .returned (.slice A n n) ∧ w = w' := by
  unfold maxLen at hc
  go_enter Try.func40, Try.ntmps40
  go_wp2
  go_ret
  exact ⟨rfl, rfl⟩
theorem clip42 (A : Option Addr) (n c : Nat) (hn : n ≤ c) (hc : c ≤ maxLen) (w : World) : Calls Try.prog 42 #[.slice A n c] w fun e w' => e = .returned (.slice A n n) ∧ w = w' := by
  unfold maxLen at hc
  go_enter Try.func42, Try.ntmps42
  go_wp2
  go_ret
  exact ⟨rfl, rfl⟩
theorem own_int_new {w : World} {base n c : Nat} {A : Option Addr} {l : List Int} (h : Own i64T 3 base w (.slice A n c) n l) : Sl i64T w (fun g => base ≤ g ∧ g < w.heap.size) A n l :=
  ⟨h.1, fun i x hx => by
    obtain ⟨b, off, cs, e, hb, hr, hc⟩ := h.sl.2 i x hx
    subst e
    exact ⟨b, off, cs, rfl, ⟨(h.lt rfl).1, hb⟩, hr, hc⟩⟩
theorem own_bind_new {w : World} {base n c : Nat} {A : Option Addr} {l : List Bind} (h : Own bdT 82 base w (.slice A n c) n l) : Sl bdT w (fun g => base ≤ g ∧ g < w.heap.size) A n l :=
  ⟨h.1, fun i x hx => by
    obtain ⟨b, off, cs, e, hb, hr, hc⟩ := h.sl.2 i x hx
    subst e
    exact ⟨b, off, cs, rfl, ⟨(h.lt rfl).1, hb⟩, hr, hc⟩⟩
set_option maxRecDepth 100000 in
set_option maxHeartbeats 1000000 in
theorem clone41 (A : Option Addr) (n c : Nat) (l : List Int) (w : World) (hn : n ≤ 32) (hl : Sl i64T w (low w.heap.size) A n l) :
    Calls Try.prog 41 #[.slice A n c] w fun e w' => ∃ A' c', e = .returned (.slice A' n c') ∧ n ≤ c' ∧ c' ≤ maxLen ∧ Sl i64T w' (fun g => w.heap.size ≤ g ∧ g < w'.heap.size) A' n l ∧ Kept w w' := by
  obtain ⟨i3, hi3, hz30, hz31, hz32⟩ := info_parts info3b
  cases A with
  | none =>
    have hn0 : n = 0 := by
      have h1 := hl.1
      cases l with
      | nil => simpa using h1.symm
      | cons x l =>
        obtain ⟨b, off, cs, e, _⟩ := hl.2 0 x rfl
        cases e
    subst hn0
    have hl0 : l = [] := List.eq_nil_of_length_eq_zero hl.1
    subst hl0
    have hE := eqlNone61 0 c
    go_enter Try.func41, Try.ntmps41
    go_wp2
    go_ret
    exact ⟨none, 0, rfl, Nat.le_refl _, by decide, Sl.nil _ _ _ _, Below.refl _ _⟩
  | some a =>
    have hE := eqlRow61 a n c
    go_enter Try.func41, Try.ntmps41
    go_wp2_with (at_builtin; refine wpList_append_sl (T := i64T) rfl (.tmp 5) (.tmp 6) 61 rfl w.heap.size 3 i3 _ 8 Try.underlying61 hi3 hz30 hz31 hz32 rfl (by decide) _ 0 [] (by rfl) (Own.lit0 i64T 3 _ (Nat.le_refl _) (heap_at _ rfl)) _ n c l (by rfl) (hl.keep (fun b hb => ⟨by have : b < w.heap.size := hb; simp; omega, by have : b < w.heap.size := hb; simp [Value.ownBlock]; omega⟩) (fun b o hb => by have : b < w.heap.size := hb; exact ((Below.refl _ _).alloc (Nat.le_refl _) _ : Kept w _).cell (p := ⟨b, o, none⟩) this)) (by rintro r cs ⟨rfl, _⟩ u hu; simp at hu; subst hu; rfl) (by unfold maxLen; omega) (by omega) (by simp) ?_; intro v7 w7 hown7 hg7 hb7 hat7)
    obtain ⟨A', c', rfl, hj1, hj2⟩ := hown7.isSlice
    rw [Nat.zero_add, List.nil_append] at hown7
    rw [Nat.zero_add] at hj1
    go_wp2
    go_ret
    exact ⟨A', c', by simp, hj1, hj2, own_int_new hown7, Below.trans ((Below.refl _ _).alloc (Nat.le_refl _) _) hb7⟩
set_option maxRecDepth 100000 in
theorem some_any (G m : Nat) (v : Value) (w : World) (h : w.heap[G]? = some (.cells #[v, .map (some m)] 89 (0, 0))) : Calls Try.prog 39 #[.pointer (some ⟨G, 0, none⟩)] w fun e w' => e = .returned (.bool false) ∧ w = w' := by
  have hc := cell_heap h (o := 1) rfl
  have hE := eqlSome m
  go_enter Try.func39, Try.ntmps39
  go_wp2
  go_ret
  exact ⟨rfl, rfl⟩
theorem zero63 : ∀ w : World, (zeroValue 63).run Try.prog w = .ok (.agg #[.int .u8 0, .slice none 0 0]) w := fun w => by kernel_rfl
theorem key8 {n : Nat} (h : n < 256) : keyOf Try.prog 5 (.int .u8 (n : Int)) = some (.int .u8 (n : Int)) := keyOf_int_mk Try.underlying5 (by simp [Lit.wf, IntKind.min, IntKind.max, IntKind.signed, IntKind.bits]; omega)
end Go.Proofs.Ytgkhenplbljbbaa
