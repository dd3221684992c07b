/- Limits: data and memory. -/
import Derived.Test.YtegdigfcgeoboaaChecked
import Derived.Deep.RegionHeld3
import Derived.Deep.DrawnRows
import Derived.Deep.DeepCutAuto
import Derived.Deep.LoopGhost
import Derived.Outline
import Derived.Handy
import Derived.OwnWalk
import Derived.Test.YtegdigfcgeoboaaScK
import Derived.Test.YtegdigfcgeoboaaN2
import Derived.KernelRfl
import Derived.Test.YtegdigfcgeoboaaN12
import Derived.Test.YtegdigfcgeoboaaQdK
set_option linter.unusedVariables false
set_option linter.unusedSimpArgs false
set_option linter.unusedSectionVars false
/- The law's item: an item with the fewest bytes. The number lies in its kind. -/
namespace Go.Proofs.Ytegdigfcgeoboaa
open Go.RowKit
attribute [local go_sem ↓] Go.wp_at_zero Go.wp_at_succ

def itemZ (n : Int) (sg : Bool) : Nat := if (sg && (decide (n < -32768) || decide (32767 < n))) || (!sg && decide (65535 < n)) then 4 else if (sg && (decide (n < -128) || decide (127 < n))) || (!sg && decide (255 < n)) then 2 else 1
def itemS (t g n : Int) (sg : Bool) : It := ⟨t, g, itemZ n sg, n % 256 ^ itemZ n sg⟩
theorem itemS_ok {t g n : Int} {sg : Bool} (ht : 0 ≤ t ∧ t ≤ 2) (hg : 0 ≤ g ∧ g ≤ 15) : (itemS t g n sg).wide = true ∧ (itemS t g n sg).ok := by
  have hz : itemZ n sg = 4 ∨ itemZ n sg = 2 ∨ itemZ n sg = 1 := by
    unfold itemZ
    split
    · exact .inl rfl
    · split
      · exact .inr (.inl rfl)
      · exact .inr (.inr rfl)
  unfold itemS It.wide It.ok u8k i64k u32k
  rcases hz with e | e | e <;> rw [e] <;> simp <;> omega
set_option maxRecDepth 100000 in
set_option maxHeartbeats 2000000 in
theorem item17u (t g n : Int) (h0 : 0 ≤ n) (h1 : n < 4294967296) (w : World) : Calls Try.prog 17 #[.int .u8 t, .int .u8 g, .int .i64 n, .bool false] w fun e w' => e = .returned (itV (itemS t g n false)) ∧ Kept w w' := by
  obtain ⟨SG, hSG⟩ : ∃ b, b = false := ⟨_, rfl⟩
  have hw : IntKind.u32.wrap n = n := by rw [IntKind.wrap_u32]; omega
  by_cases c1 : 65535 < n
  · have hz : itemZ n false = 4 := by unfold itemZ; simp [c1]
    have c2 : 255 < n := by omega
    rw [show (itemS t g n false) = ⟨t, g, 4, n⟩ by unfold itemS; rw [hz]; show (⟨t, g, 4, n % 256 ^ 4⟩ : It) = _; rw [show n % 256 ^ 4 = n by omega]]
    unfold itV
    clear hz
    go_enter Try.func17, Try.ntmps17
    go_wp2_with fail
    refine bodyPost_ret (v := .agg #[.int .u8 t, .int .u8 g, .int .i64 4, .int .u32 n]) (by simp [results, Try.results17, go_sem]) rfl ⟨rfl, by go_grown⟩
  by_cases c2 : 255 < n
  · have hz : itemZ n false = 2 := by unfold itemZ; simp [c1, c2]
    rw [show (itemS t g n false) = ⟨t, g, 2, n⟩ by unfold itemS; rw [hz]; show (⟨t, g, 2, n % 256 ^ 2⟩ : It) = _; rw [show n % 256 ^ 2 = n by omega]]
    unfold itV
    clear hz
    have hm : n % 65536 = n := by omega
    have c1' : n ≤ 65535 := by omega
    go_enter Try.func17, Try.ntmps17
    go_wp2_with fail
    go_region
    all_goals
      go_wp2_with fail
      refine bodyPost_ret (v := .agg #[.int .u8 t, .int .u8 g, .int .i64 2, .int .u32 n]) (by simp [results, Try.results17, go_sem]) rfl ⟨rfl, by go_grown⟩
  · have hz : itemZ n false = 1 := by unfold itemZ; simp [c1, c2]
    rw [show (itemS t g n false) = ⟨t, g, 1, n⟩ by unfold itemS; rw [hz]; show (⟨t, g, 1, n % 256 ^ 1⟩ : It) = _; rw [show n % 256 ^ 1 = n by omega]]
    unfold itV
    clear hz
    have hm : n % 256 = n := by omega
    have c1' : n ≤ 65535 := by omega
    have c2' : n ≤ 255 := by omega
    go_enter Try.func17, Try.ntmps17
    go_wp2_with fail
    go_region
    all_goals
      go_wp2_with fail
      refine bodyPost_ret (v := .agg #[.int .u8 t, .int .u8 g, .int .i64 1, .int .u32 n]) (by simp [results, Try.results17, go_sem]) rfl ⟨rfl, by go_grown⟩
end Go.Proofs.Ytegdigfcgeoboaa
/- Descriptors at the limits, as data. No condition; nothing of the program. -/
namespace Go.Proofs.Ytegdigfcgeoboaa
open Go.RowKit

def iI (t g n : Int) : It := itemS t g n false
def headL : List It := [iI 1 7 1, iI 1 9 1, iI 0 10 0]
def endL : List It := [iI 0 12 0]
def repL (k : Nat) (ys : List It) : List It := (List.replicate k ys).flatten
def partL (n : Int) : Nat → List It
  | 0 => repL (256 + n).toNat [iI 0 8 1]
  | 1 => repL (63 + n).toNat [iI 0 10 0, iI 0 12 0]
  | 2 => [iI 2 1 1, iI 2 2 (512 + n)]
  | 3 => repL 16 [iI 1 7 1, iI 1 9 255, iI 0 9 1] ++ [iI 1 9 (16 + n), iI 0 9 1]
  | _ => repL (8 + n).toNat [iI 1 10 0] ++ repL (8 + n).toNat [iI 1 11 0]
def allL (n : Int) (i : Nat) : List It := headL ++ partL n i ++ endL
theorem lim0a : (parseS (allL (-1) 0)).1 = 0 := by kernel_rfl
theorem lim0b : (parseS (allL 0 0)).1 = 0 := by kernel_rfl
theorem lim0c : (parseS (allL 1 0)).1 = 3 := by kernel_rfl
theorem lim1a : (parseS (allL (-1) 1)).1 = 0 := by kernel_rfl
theorem lim1b : (parseS (allL 0 1)).1 = 0 := by kernel_rfl
theorem lim1c : (parseS (allL 1 1)).1 = 3 := by kernel_rfl
theorem lim2a : (parseS (allL (-1) 2)).1 = 0 := by kernel_rfl
theorem lim2b : (parseS (allL 0 2)).1 = 0 := by kernel_rfl
theorem lim2c : (parseS (allL 1 2)).1 = 3 := by kernel_rfl
theorem lim3a : (parseS (allL (-1) 3)).1 = 0 := by kernel_rfl
theorem lim3b : (parseS (allL 0 3)).1 = 0 := by kernel_rfl
theorem lim3c : (parseS (allL 1 3)).1 = 3 := by kernel_rfl
theorem lim4a : (parseS (allL (-1) 4)).1 = 0 := by kernel_rfl
theorem lim4b : (parseS (allL 0 4)).1 = 0 := by kernel_rfl
theorem lim4c : (parseS (allL 1 4)).1 = 3 := by kernel_rfl
theorem wide_all : ∀ i : Fin 5, ((allL (-1) i.val).all It.wide && (allL 0 i.val).all It.wide && (allL 1 i.val).all It.wide) = true := by decide +kernel
end Go.Proofs.Ytegdigfcgeoboaa
/- ReportsLimits: its memory. No condition. -/
namespace Go.Proofs.Ytegdigfcgeoboaa
open Go.RowKit

/-- all below a block is as it was, but one block -/
structure KeptTo (P B : Nat) (w w' : World) : Prop where
  os : w'.os = w.os
  tape : w'.tape = w.tape
  output : w'.output = w.output
  size : w.heap.size ≤ w'.heap.size
  block : ∀ k, k < B → k ≠ P → w'.heap[k]? = w.heap[k]?
section
variable {P B : Nat} {w w' w'' : World}
theorem KeptTo.refl : KeptTo P B w w := ⟨rfl, rfl, rfl, Nat.le_refl _, fun _ _ _ => rfl⟩
theorem KeptTo.trans (h : KeptTo P B w w') (k : KeptTo P B w' w'') : KeptTo P B w w'' := ⟨k.os.trans h.os, k.tape.trans h.tape, k.output.trans h.output, Nat.le_trans h.size k.size, fun i h1 h2 => (k.block i h1 h2).trans (h.block i h1 h2)⟩
theorem KeptTo.of (h : Kept w w') (hB : B ≤ w.heap.size) : KeptTo P B w w' := ⟨h.os, h.tape, h.output, h.size, fun k h1 _ => h.block k (by omega)⟩
theorem KeptTo.set (i : Nat) (u : Value) : KeptTo P B w (w.setCell ⟨P, i, none⟩ u) := ⟨rfl, rfl, rfl, by rw [World.size_setCell]; exact Nat.le_refl _, fun k _ h2 => Below.heap_setCell _ _ _ k h2⟩
theorem KeptTo.below (h : Below B w w') : KeptTo P B w w' := ⟨h.os, h.tape, h.output, h.size, fun i h1 _ => h.block i h1⟩
theorem KeptTo.kept (h : KeptTo P B w w') {w0 : World} (h0 : Kept w0 w) (hP : w0.heap.size ≤ P) (hB : P < B) : Kept w0 w' := ⟨h.os.trans h0.os, h.tape.trans h0.tape, h.output.trans h0.output, Nat.le_trans h0.size h.size, fun k hk => (h.block k (by omega) (by omega)).trans (h0.block k hk)⟩
end
/-- a part of the descriptor: a slice that reads as items, apart from the array of parts -/
def PartIs (P B : Nat) (w : World) (v : Value) (l : List It) : Prop := ∃ A c, v = .slice A l.length c ∧ l.length ≤ c ∧ c ≤ maxLen ∧ Sl itT w (fun b => b < B ∧ b ≠ P) A l.length l
section
variable {P B : Nat} {w w' : World} {v : Value} {l : List It}
theorem PartIs.keep (h : PartIs P B w v l) (hk : KeptTo P B w w') : PartIs P B w' v l := by
  obtain ⟨A, c, e, h1, h2, h3⟩ := h
  exact ⟨A, c, e, h1, h2, h3.keep (fun _ hb => hb) (fun b o hb => World.cell?_of_block (a := ⟨b, o, none⟩) (hk.block b hb.1 hb.2))⟩
theorem PartIs.mono (h : PartIs P B w v l) {B' : Nat} (hB : B ≤ B') : PartIs P B' w v l := by
  obtain ⟨A, c, e, h1, h2, h3⟩ := h
  exact ⟨A, c, e, h1, h2, h3.keep (fun _ hb => ⟨by omega, hb.2⟩) (fun _ _ _ => rfl)⟩
theorem PartIs.nil (P B : Nat) (w : World) : PartIs P B w (.slice none 0 0) [] := ⟨none, 0, rfl, Nat.le_refl _, by decide, Sl.nil _ _ _ _⟩
theorem PartIs.own {base : Nat} (h : Own itT 29 base w v l.length l) (hP : P < base) : PartIs P w.heap.size w v l := by
  obtain ⟨A, c, rfl, h1, h2⟩ := h.isSlice
  exact ⟨A, c, rfl, h1, h2, h.sl_of _ (fun g h3 h4 => ⟨h4, by omega⟩) (fun _ _ h => h)⟩
end
theorem sl_it_heap {w : World} {b : Nat} {t : TypeId} {xs : List It} {cs : Array Value} {F : Nat → Prop} (h : w.heap[b]? = some (.cells cs t (0, 0))) (hc : cs = (xs.flatMap It.cells).toArray) (hx : ∀ x ∈ xs, x.ok) (hF : F b) : Sl itT w F (some ⟨b, 0, none⟩) xs.length xs := by
  subst hc
  refine ⟨rfl, fun i x hi => ⟨b, 0, x.cells, rfl, hF, ⟨rfl, hx x (List.mem_of_getElem? hi)⟩, fun j v hv => cell_heap h ?_⟩⟩
  have h4 := itCs_at xs i x hi
  unfold itCs at h4
  have hj : j < 4 := (List.getElem?_eq_some_iff.1 hv).1
  rw [← h4, List.getElem?_take_of_lt hj, List.getElem?_drop] at hv
  show (xs.flatMap It.cells).toArray[0 + i * 4 + j]? = _
  rw [List.getElem?_toArray, show 0 + i * 4 + j = i * 4 + j by omega]
  exact hv
theorem repL_succ (k : Nat) (ys : List It) : repL (k + 1) ys = repL k ys ++ ys := by
  unfold repL
  rw [List.replicate_succ', List.flatten_append]
  simp
theorem repL_len (k : Nat) (ys : List It) : (repL k ys).length = k * ys.length := by
  unfold repL
  simp [List.length_flatten, List.map_replicate]
theorem item17i (t g n : Int) (h0 : 0 ≤ n) (h1 : n < 4294967296) (x : It) (hx : iI t g n = x) (w : World) : Calls Try.prog 17 #[.int .u8 t, .int .u8 g, .int .i64 n, .bool false] w fun e w' => e = .returned (.agg #[.int .u8 x.ty, .int .u8 x.tg, .int .i64 x.size, .int .u32 x.data]) ∧ Kept w w' := by
  have h := item17u t g n h0 h1 w
  rw [show itemS t g n false = x from hx] at h
  exact h
theorem by_one29 : ∀ (F : Nat → Prop) (w : World) (x : It) (cs : List Value), itT.rel w F x cs → ∀ u ∈ cs, u.oneCell' = true := by
  rintro F w x cs ⟨rfl, _⟩ u hu
  simp [It.cells] at hu
  rcases hu with rfl | rfl | rfl | rfl <;> rfl
theorem iI_ok {t g n : Int} (ht : 0 ≤ t ∧ t ≤ 2) (hg : 0 ≤ g ∧ g ≤ 15) : (iI t g n).ok := (itemS_ok ht hg).2
end Go.Proofs.Ytegdigfcgeoboaa
