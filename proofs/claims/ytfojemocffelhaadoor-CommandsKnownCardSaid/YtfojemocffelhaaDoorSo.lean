
/- Bytes that lie in a block; strings.Trim. -/
import Derived.Test.YtfojemocffelhaaDoorChecked
import Derived.Deep.RegionHeld3
import Derived.Deep.DrawnRows
import Derived.Deep.DeepCutAuto
import Derived.Deep.LoopGhost
import Derived.Outline
import Derived.Handy
import Derived.OwnWalk
import Derived.Test.YtfojemocffelhaaDoorSm
import Derived.Test.YtfojemocffelhaaDoorSn
import Derived.Test.YtfojemocffelhaaDoorSk
set_option linter.unusedVariables false
set_option linter.unusedSimpArgs false
set_option linter.unusedSectionVars false
namespace Go.Proofs.YtfojemocffelhaaDoor
open Go.RowKit Go.Shelf
attribute [local go_sem ↓] Go.wp_at_zero Go.wp_at_succ

/-- the bytes bs lie in block b from off on -/
def Bs (w : World) (b off : Nat) (bs : List UInt8) : Prop := b < w.heap.size ∧ ∀ (j : Nat) (x : UInt8), bs[j]? = some x → w.cell? ⟨b, off + j, none⟩ = some (.int .u8 (x.toNat : Int))
theorem Bs.kept {w w' : World} {b off : Nat} {bs : List UInt8} (h : Bs w b off bs) (hk : Kept w w') : Bs w' b off bs :=
  ⟨Nat.lt_of_lt_of_le h.1 hk.size, fun j x hx => (hk.cell (p := ⟨b, off + j, none⟩) h.1).trans (h.2 j x hx)⟩
theorem Bs.take {w : World} {b off : Nat} {bs : List UInt8} (h : Bs w b off bs) (k : Nat) : Bs w b off (bs.take k) :=
  ⟨h.1, fun j x hx => h.2 j x (by rw [List.getElem?_take] at hx; split at hx; exact hx; cases hx)⟩
theorem Bs.drop {w : World} {b off : Nat} {bs : List UInt8} (h : Bs w b off bs) (k : Nat) : Bs w b (off + k) (bs.drop k) :=
  ⟨h.1, fun j x hx => by rw [Nat.add_assoc]; exact h.2 (k + j) x (by rw [List.getElem?_drop] at hx; exact hx)⟩
theorem Bs.conv {w : World} {b off : Nat} {bs : List UInt8} (h : Bs w b off bs) (n cap : Nat) (hn : bs.length = n) :
    (convert 32 9 (.slice (some ⟨b, off, none⟩) n cap)).run Tryd.prog w = .ok (.string ⟨bs.toArray⟩) w := by
  subst hn
  refine run_convert_bytes_back (P := Tryd.prog) w 32 9 5 ⟨b, off, none⟩ cap bs Tryd.underlying32 Tryd.underlying5 Tryd.underlying9 (fun j hj => ?_)
  rw [Addr.add_mid]
  exact h.2 j _ (List.getElem?_eq_getElem hj)
theorem Bs.of_sl {w : World} {A : Option Addr} {n : Nat} {bs : List UInt8} (h : Sl byT w (low w.heap.size) A n bs) (hn : 0 < n) : ∃ b off, A = some ⟨b, off, none⟩ ∧ Bs w b off bs := by
  obtain ⟨x0, b, off, _, hA, hb, _, _⟩ := by_at h (Below.refl _ _) hn
  refine ⟨b, off, hA, hb, fun j x hx => ?_⟩
  have hj : j < n := by rw [← h.1]; exact (List.getElem?_eq_some_iff.1 hx).1
  obtain ⟨y, b', off', hy, hA', _, _, hc⟩ := by_at h (Below.refl _ _) hj
  rw [hA] at hA'
  injection hA' with hA'
  injection hA' with e1 e2 _
  subst e1 e2
  rw [hy] at hx
  injection hx with hx
  rw [← hx]
  exact hc
theorem Bs.of_heap {w : World} {g : Nat} {t : TypeId} {fr : Nat × Nat} {bs : List UInt8} (h : w.heap[g]? = some (.cells (u8C bs).toArray t fr)) : Bs w g 0 bs :=
  ⟨heap_lt h, fun j x hx => by rw [Nat.zero_add]; exact cells_of_heap h j _ (by simp [u8C, hx])⟩
/-- what lies behind the first k bytes: the slice, and its string -/
theorem tail_run (b off n c k : Nat) (kz : Int) (bs : List UInt8) (hl : bs.length = n) (hk : k ≤ n) (hc : n ≤ c) (hkz : kz = k) : ∃ P J C, (∀ W, (Instr.sliceAt 32 (.slice (some ⟨b, off, none⟩) n c) (some (.int .i64 kz)) none none).run Tryd.prog W = .ok (.slice P J C) W) ∧
    (∀ W, (Instr.slice 32 (.slice (some ⟨b, off, none⟩) n c) (some (.int .i64 kz)) none none).run Tryd.prog W = .ok (.slice P J C) W) ∧
    (∀ W, Bs W b off bs → (convert 32 9 (.slice P J C)).run Tryd.prog W = .ok (.string ⟨(bs.drop k).toArray⟩) W) := by
  subst hkz
  have hel : Tryd.prog.elem 32 = 5 := by kernel_rfl
  have hs : ∀ W, (Instr.slice 32 (.slice (some ⟨b, off, none⟩) n c) (some (.int .i64 k)) none none).run Tryd.prog W = .ok (.slice (if k = c then some ⟨b, off, none⟩ else some ⟨b, off + k, none⟩) (n - k) (c - k)) W := fun W => by
    rw [run_slice_l (w := W) 32 _ n c (by rw [hel]; exact Tryd.underlying32) .i64 k (by omega) (by omega), hel, Tryd.sizeOf5]
    by_cases hkc : k = c
    · simp [sliced, hkc]
    · simp [sliced, hkc, Ne.symm hkc, Addr.add_mid]
  refine ⟨if k = c then some ⟨b, off, none⟩ else some ⟨b, off + k, none⟩, n - k, c - k, fun W => ?_, hs, fun W hB => ?_⟩
  · rw [run_sliceAt_slice (w := W) 32 _ _ _ _ (by rw [hel]; exact Tryd.underlying32), hs]
  · by_cases hkc : k = c
    · rw [if_pos hkc]
      have e : bs.drop k = [] := List.drop_eq_nil_of_le (by omega)
      rw [e]
      exact Bs.conv (bs := []) ⟨hB.1, fun j x hx => by simp at hx⟩ _ _ (by simp; omega)
    · rw [if_neg hkc]
      exact (hB.drop k).conv _ _ (by simp; omega)

theorem trim_zero (s : ByteArray) (w : World) (hs : s.size ≤ 100) : Calls Tryd.prog 34 #[.string s, .string ⟨#[0]⟩] w fun e w' => e = .returned (.string ⟨(Lib.trimB s.data.toList 0).toArray⟩) ∧ Kept w w' := by
  refine (Any.strings_Trim_one laysTrim s 0 (by decide) w (by omega)).mono ?_
  rintro e w' ⟨rfl, rfl | rfl⟩
  · exact ⟨rfl, Below.refl _ _⟩
  · exact ⟨rfl, (Below.refl _ _).drew⟩
theorem trim_q (s : ByteArray) (w : World) (hs : s.size ≤ 100) : Calls Tryd.prog 34 #[.string s, .string ⟨#[0]⟩] w fun e w' => e = .returned (.string ⟨(Lib.trimB s.data.toList 0).toArray⟩) ∧ ∃ m, w' = w.drewN m := by
  refine (Any.strings_Trim_one laysTrim s 0 (by decide) w (by omega)).mono ?_
  rintro e w' ⟨rfl, rfl | rfl⟩
  · exact ⟨rfl, 0, rfl⟩
  · exact ⟨rfl, 1, rfl⟩
theorem trimB_nil {l : List UInt8} (h : ∀ x ∈ l, x = 0) : Lib.trimB l 0 = [] := by
  unfold Lib.trimB
  rw [Lib.trimRightB_take l 0 0 (by omega) (fun j b _ hb => h b (List.mem_of_getElem? hb)) (fun b h0 _ => by omega)]
  rfl
theorem dw_nil {α : Type} {p : α → Bool} : ∀ {l : List α}, l.dropWhile p = [] → ∀ x ∈ l, p x = true
  | [], _, x, hx => by cases hx
  | y :: ys, h, x, hx => by
    rw [List.dropWhile_cons] at h
    split at h
    · rename_i hy
      rcases List.mem_cons.1 hx with rfl | hx
      · exact hy
      · exact dw_nil h x hx
    · cases h
theorem dw_mem {α : Type} {p : α → Bool} : ∀ {l : List α} {x : α}, x ∈ l → p x = false → x ∈ l.dropWhile p
  | [], x, hx, _ => by cases hx
  | y :: ys, x, hx, h => by
    rw [List.dropWhile_cons]
    split
    · rename_i hy
      rcases List.mem_cons.1 hx with rfl | hx
      · rw [hy] at h; cases h
      · exact dw_mem hx h
    · exact hx
theorem trimB_some {l : List UInt8} {x : UInt8} (hx : x ∈ l) (h0 : x ≠ 0) : Lib.trimB l 0 ≠ [] := by
  intro h
  have h1 : x ∈ l.reverse.dropWhile (· == (0 : UInt8)) := dw_mem (List.mem_reverse.2 hx) (by simpa using h0)
  have h2 := dw_nil (p := (· == (0 : UInt8))) (l := (l.reverse.dropWhile (· == (0 : UInt8))).reverse) h x (List.mem_reverse.2 h1)
  exact h0 (by simpa using h2)
end Go.Proofs.YtfojemocffelhaaDoor
