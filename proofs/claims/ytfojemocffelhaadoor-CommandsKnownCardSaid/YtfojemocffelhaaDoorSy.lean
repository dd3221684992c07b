
/- Appending bytes: general. -/
import Derived.Test.YtfojemocffelhaaDoorChecked
import Derived.Deep.RegionHeld3
import Derived.Deep.DrawnRows
import Derived.Deep.DeepCutAuto
import Derived.Deep.LoopGhost
import Derived.Outline
import Derived.Handy
import Derived.Test.YtfojemocffelhaaDoorPc
import Derived.Test.YtfojemocffelhaaDoorSo
import Derived.Laws.BitsAllLaws
set_option linter.unusedVariables false
set_option linter.unusedSimpArgs false
set_option linter.unusedSectionVars false
namespace Go.Proofs.YtfojemocffelhaaDoor
open Go.RowKit

theorem wpList_append_sl {α : Type} {T : Ty α} {P : Program} {W : World} {ops : Array Oper} {rest : List Oper} {o : Oper} {a : Act} {Q : Exit → Act → World → Prop} (hgd : o.guard = none) (s x : Operand) (t : TypeId)
    (ho : o.op = .call { callee := .builtin .append, args := #[s, x], argTypes := #[t, t] })
    (base : Nat) (e : TypeId) (i : TypeInfo) (z : Value) (bytes : Nat) (ht : P.underlying t = some (.slice e)) (hi : P.info? e = some i) (hz : i.zero = some z)
    (hsize : i.size = T.size) (hby : i.bytes = bytes) (hzs : z.cells.size = T.size) (hsz : 0 < T.size)
    (v : Value) (n : Nat) (xs : List α) (hs : a.eval s = v) (hown : Own T e base W v n xs)
    (A : Option Addr) (m c : Nat) (ys : List α) (hx : a.eval x = .slice A m c) (hsl : Sl T W (apart W v) A m ys) (h1 : ∀ x cs, T.rel W (apart W v) x cs → ∀ u ∈ cs, u.oneCell' = true)
    (h63 : n + m ≤ maxLen) (hbytes : (n + m) * bytes ≤ 140737488355328) (hbase : base ≤ W.heap.size)
    (h : ∀ v' w', Own T e base w' v' (n + m) (xs ++ ys) → W.grownBy w' v.ownBlock → Below base W w' → (v'.ownBlock = v.ownBlock ∨ v'.ownBlock = some W.heap.size) →
      wpList P ops Q rest (a.put o.dst v') w') : wpList P ops Q (o :: rest) a W :=
  wpList_plain hgd fun _ hK => wp_append_sl s x t ho base e i z bytes ht hi hz hsize hby hzs hsz v n xs hs hown A m c ys hx hsl h1 h63 hbytes hbase fun v' w' h1 h2 h3 h4 => hK _ _ (h v' w' h1 h2 h3 h4)
theorem by_one {w : World} {F : Nat → Prop} : ∀ x cs, byT.rel w F x cs → ∀ u ∈ cs, u.oneCell' = true := by
  rintro x cs ⟨rfl, _⟩ u hu
  simp only [List.mem_singleton] at hu
  subst hu
  rfl
theorem Bs.slF {w : World} {g off n : Nat} {bs : List UInt8} {F : Nat → Prop} (h : Bs w g off bs) (hn : bs.length = n) (hF : F g) : Sl byT w F (some ⟨g, off, none⟩) n bs :=
  ⟨hn, fun i x hx => ⟨g, off, _, rfl, hF, ⟨rfl, trivial⟩, fun j v hv => by
    have hj : j = 0 := by
      have := (List.getElem?_eq_some_iff.1 hv).1
      simp only [List.length_singleton] at this
      omega
    subst hj
    have hv : Value.int .u8 (x.toNat : Int) = v := by simpa using hv
    rw [← hv]
    show w.cell? ⟨g, off + i * 1 + 0, none⟩ = _
    rw [Nat.mul_one, Nat.add_zero]
    exact h.2 i x hx⟩⟩
theorem Bs.sl {w : World} {g off n : Nat} {bs : List UInt8} (h : Bs w g off bs) (hn : bs.length = n) : Sl byT w (low w.heap.size) (some ⟨g, off, none⟩) n bs := h.slF hn h.1
/-- what the call owns lies in a block of its own -/
theorem own_bs {base g n c : Nat} {w : World} {xs : List UInt8} (h : Own byT 5 base w (.slice (some ⟨g, 0, none⟩) n c) n xs) (hg : g < w.heap.size) : Bs w g 0 xs :=
  ⟨hg, fun j x hx => by rw [Nat.zero_add]; exact own_cells h j _ (by simp [u8C, hx])⟩
theorem own_heap {base g n c : Nat} {w : World} {xs : List UInt8} (h : Own byT 5 base w (.slice (some ⟨g, 0, none⟩) n c) n xs) : ∃ cur, w.heap[g]? = some (.cells cur 5 (0, 0)) := by
  obtain ⟨_, cells, h2, _⟩ := h
  rcases h2.2 with ⟨h0, _⟩ | ⟨g', cap, cur, hv, _, hh, _⟩
  · cases h0
  · injection hv with hA _ _
    injection hA with hA
    injection hA with e _ _
    subst e
    exact ⟨cur, hh⟩
theorem Bs.setD {w : World} {g Q : Nat} {xs : List UInt8} {u : Value} (h : Bs w g 0 xs) (hc : w.cell? ⟨g, Q, none⟩ = some u) (Y : UInt8) : Bs (w.drew.setCell ⟨g, Q, none⟩ (.int .u8 (Y.toNat : Int))) g 0 (xs.set Q Y) :=
  ⟨by simpa using h.1, fun j x hx => by
    rw [Nat.zero_add]
    by_cases hj : j = Q
    · subst hj
      have hlt : j < xs.length := by have := (List.getElem?_eq_some_iff.1 hx).1; simpa using this
      rw [List.getElem?_set_self hlt] at hx
      injection hx with hx
      rw [← hx]
      exact World.cell?_setCell_same w.drew _ _ hc
    · rw [List.getElem?_set_ne (Ne.symm hj)] at hx
      have h1 := h.2 j x hx
      rw [Nat.zero_add] at h1
      exact (World.cell?_setCell_other w.drew ⟨g, Q, none⟩ ⟨g, j, none⟩ _ (fun e => by injection e with _ e _; exact hj e.symm)).trans h1⟩
theorem flip (x : UInt8) (r : Nat) (hr : r < 8) : ∃ Y : UInt8, Y ≠ x ∧ bits .xor .u8 (x.toNat : Int) ((2 ^ r : Nat) : Int) = (Y.toNat : Int) := by
  have hx := x.toNat_lt
  have h2 : 2 ^ r < 256 := Nat.lt_of_lt_of_le (Nat.pow_lt_pow_right (by omega) hr) (by decide)
  have hlt : x.toNat ^^^ 2 ^ r < 256 := Nat.xor_lt_two_pow (n := 8) (by omega) (by omega)
  have ht : (UInt8.ofNat (x.toNat ^^^ 2 ^ r)).toNat = x.toNat ^^^ 2 ^ r := by rw [UInt8.toNat_ofNat']; omega
  refine ⟨UInt8.ofNat (x.toNat ^^^ 2 ^ r), fun h => ?_, ?_⟩
  · have h3 := congrArg UInt8.toNat h
    rw [ht] at h3
    have h4 : x.toNat ^^^ (x.toNat ^^^ 2 ^ r) = 2 ^ r := by rw [← Nat.xor_assoc, Nat.xor_self, Nat.zero_xor]
    rw [h3, Nat.xor_self] at h4
    have := Nat.two_pow_pos r
    omega
  · rw [ht]
    exact u8_xor_nat x.toNat (2 ^ r) (by omega) h2
end Go.Proofs.YtfojemocffelhaaDoor
