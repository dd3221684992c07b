/- A string as bytes. -/
import Derived.Test.YtjgncofhobhjdaaDoorChecked
import Derived.Deep.RegionHeld3
import Derived.Deep.DrawnRows
import Derived.Deep.DeepCutAuto
import Derived.Deep.LoopGhost
import Derived.Outline
import Derived.Handy
import Derived.OwnWalk
import Derived.BigQuiet
import Derived.Laws.IdiomStrings
import Derived.Test.YtjgncofhobhjdaaDoorN14
import Derived.Test.YtjgncofhobhjdaaDoorN11
import Derived.Test.YtjgncofhobhjdaaDoorYeK
import Derived.Test.YtjgncofhobhjdaaDoorN15
set_option linter.unusedVariables false
set_option linter.unusedSimpArgs false
set_option linter.unusedSectionVars false
/- A string told again as a slice of bytes. No condition. -/
namespace Go.Proofs.YtjgncofhobhjdaaDoor
open Go.RowKit
theorem strB_size (l : List Int) : (strB l).size = l.length := by simp [ByteArray.size, strB]
theorem sl_of_cells {w : World} {b : Nat} {l : List Int} {r : List Value} {fr : Nat × Nat} {F : Nat → Prop} (h : w.heap[b]? = some (.cells (l.map (Value.int .u8) ++ r).toArray 5 fr)) (hb : F b) (hl : ∀ z ∈ l, u8k z) : Sl u8T w F (some ⟨b, 0, none⟩) l.length l := by
  refine ⟨rfl, fun i x hx => ⟨b, 0, [.int .u8 x], rfl, hb, ⟨rfl, hl x (List.mem_of_getElem? hx)⟩, fun j v hv => ?_⟩⟩
  have hj : j = 0 := by
    cases j with
    | zero => rfl
    | succ j => simp at hv
  subst hj
  have hv' : Value.int .u8 x = v := by simpa using hv
  subst hv'
  have hi := (List.getElem?_eq_some_iff.1 hx).1
  rw [cell_of_row w b (0 + i * u8T.size + 0) _ _ _ h]
  simp only [u8T, Ty.flat, Nat.mul_one, Nat.zero_add, Nat.add_zero, List.getElem?_toArray]
  rw [List.getElem?_append_left (by simpa using hi)]
  simp [hx]
theorem row_of_str (l : List Int) (cap : Nat) (hl : ∀ z ∈ l, u8k z) : bytesRow (strB l) cap = (l.map (Value.int .u8) ++ List.replicate (cap - l.length) (Value.int .u8 0)).toArray := by
  have hb : ∀ z ∈ l, (((UInt8.ofNat z.toNat).toNat : Nat) : Int) = z := fun z hz => by
    have := hl z hz
    unfold u8k at this
    rw [UInt8.toNat_ofNat']
    omega
  have hd : (strB l).data.toList = l.map fun n => UInt8.ofNat n.toNat := by simp [strB]
  unfold bytesRow
  rw [strB_size]
  apply Array.toList_inj.1
  rw [Array.toList_append, Array.toList_map, Array.toList_replicate, hd, List.map_map]
  show _ = l.map (Value.int .u8) ++ List.replicate (cap - l.length) (Value.int .u8 0)
  have hm : List.map ((fun b : UInt8 => Value.int .u8 (b.toNat : Int)) ∘ fun n : Int => UInt8.ofNat n.toNat) l = l.map (Value.int .u8) := List.map_congr_left fun z hz => by rw [Function.comp_apply, hb z hz]
  rw [hm]
/-- what '[]byte(s)' lays -/
theorem str_sl (l : List Int) (w : World) (hl : ∀ z ∈ l, u8k z) (hm : l.length ≤ maxLen) : ∃ cap w1, (convert 9 34 (.string (strB l))).run Tryd.prog w = .ok (.slice (some ⟨w.heap.size, 0, none⟩) l.length cap) w1 ∧
    (∃ r fr, w1.heap[w.heap.size]? = some (.cells (l.map (Value.int .u8) ++ r).toArray 5 fr) ∧ l.length + r.length = cap ∧ fr = (cap, cap + 1)) ∧ l.length ≤ cap ∧ cap ≤ maxLen ∧ Kept w w1 := by
  have h1 := run_bytes_of_string (P := Tryd.prog) w 9 34 5 (strB l) Tryd.underlying9 Tryd.underlying34 Tryd.underlying5
  have hge := grownCap_ge w (strB l).size 0 5
  have hle := grownCap_le_maxLen w (strB l).size 0 5 (by rw [strB_size]; exact hm)
  rw [strB_size] at h1 hge hle
  obtain ⟨cap, hcap⟩ : ∃ cap, grownCap w l.length 0 5 = cap := ⟨_, rfl⟩
  rw [hcap] at h1 hge hle
  have hrow := row_of_str l cap hl
  have hsz : (bytesRow (strB l) cap).size = cap := by rw [hrow]; simp; omega
  rw [hsz] at h1
  exact ⟨cap, _, h1, ⟨List.replicate (cap - l.length) (.int .u8 0), (cap, cap + 1), by rw [heap_at (w := w.drew) (n := w.heap.size) _ rfl, hrow], by rw [List.length_replicate]; omega, rfl⟩, hge, hle, (Below.refl _ w).drew.alloc (by simp) _⟩
end Go.Proofs.YtjgncofhobhjdaaDoor
