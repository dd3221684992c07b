

/- Two requests apart: same, and the law's walk. The library's variables are as the program lays them. -/
import Derived.Test.YtfoeihbajichpaaDoorChecked
import Derived.Deep.RegionHeld3
import Derived.Deep.DrawnRows
import Derived.Deep.DeepCutAuto
import Derived.Deep.LoopGhost
import Derived.Outline
import Derived.Handy
import Derived.OwnWalk
import Derived.Laws.EntriesVeiled
import Derived.Lib.SlBytesRow
import Derived.Test.YtfoeihbajichpaaDoorSp
set_option linter.unusedVariables false
set_option linter.unusedSimpArgs false
set_option linter.unusedSectionVars false
namespace Go.Proofs.YtfoeihbajichpaaDoor
open Go.RowKit Go.Lib Go.Maps Go.WideShapes
attribute [local go_sem ↓] Go.wp_at_zero Go.wp_at_succ

def u8B (n : Int) : UInt8 := UInt8.ofNat n.toNat
theorem u8B_nat {n : Int} (h0 : 0 ≤ n) (h1 : n < 256) : ((u8B n).toNat : Int) = n := by
  unfold u8B; rw [UInt8.toNat_ofNat']; omega
def encB (r : Rq) : ByteArray := ⟨((encL r).map u8B).toArray⟩
theorem encB_size (r : Rq) : (encB r).size = 8 := rfl
theorem encL_range {r : Rq} (h : r.ok) : ∀ y ∈ encL r, 0 ≤ y ∧ y < 256 := by
  obtain ⟨⟨a0, a1⟩, ⟨b0, b1⟩, ⟨c0, c1⟩, ⟨d0, d1⟩, ⟨e0, e1⟩⟩ := h
  intro y hy
  simp only [encL, List.mem_cons, List.not_mem_nil, or_false] at hy
  rcases hy with rfl | rfl | rfl | rfl | rfl | rfl | rfl | rfl <;> omega
theorem encB_inj {r q : Rq} (hr : r.ok) (hq : q.ok) (h : encB r = encB q) : r = q := by
  have h1 : (encL r).map u8B = (encL q).map u8B := by have := congrArg (fun b => b.data.toList) h; simpa [encB] using this
  have h2 : encL r = encL q := by
    have e : ∀ (l : List Int), (∀ y ∈ l, 0 ≤ y ∧ y < 256) → (l.map u8B).map (fun b => (b.toNat : Int)) = l := by
      intro l hl
      rw [List.map_map]
      conv => rhs; rw [← List.map_id l]
      exact List.map_congr_left fun y hy => u8B_nat (hl y hy).1 (hl y hy).2
    have := congrArg (fun l => l.map (fun b : UInt8 => (b.toNat : Int))) h1
    try dsimp only at this
    rwa [e _ (encL_range hr), e _ (encL_range hq)] at this
  obtain ⟨⟨a0, a1⟩, ⟨b0, b1⟩, ⟨c0, c1⟩, ⟨d0, d1⟩, ⟨e0, e1⟩⟩ := hr
  obtain ⟨⟨f0, f1⟩, ⟨g0, g1⟩, ⟨k0, k1⟩, ⟨l0, l1⟩, ⟨m0, m1⟩⟩ := hq
  cases r; cases q
  simp only [encL, List.cons.injEq, and_true] at h2
  try dsimp only at *
  congr <;> omega
theorem encode_bytes (t c v x l : Int) (w : World) (hok : Rq.ok ⟨t, c, v, x, l⟩) :
    Calls Tryd.prog 22 #[.agg #[.int .u8 (t), .int .u8 (c), .int .u16 (v), .int .u16 (x), .int .u16 (l)]] w fun e w' => ∃ b, e = .returned (.slice (some ⟨b, 0, none⟩) 8 8) ∧ w.heap.size ≤ b ∧ Bytes w' b 0 (encB ⟨t, c, v, x, l⟩) ∧ Kept w w' := by
  refine (encode_any t c v x l w hok).mono ?_
  rintro e w' ⟨b, rfl, hb, _, hc, hk⟩
  refine ⟨b, rfl, hb, fun i hi => ?_, hk⟩
  have hi8 : i < (encL ⟨t, c, v, x, l⟩).length := hi
  rw [Nat.zero_add, hc i _ (List.getElem?_eq_getElem hi8)]
  have e1 : (encB ⟨t, c, v, x, l⟩)[i] = u8B (encL ⟨t, c, v, x, l⟩)[i] := by
    show ((encL ⟨t, c, v, x, l⟩).map u8B).toArray[i]'(by simpa using hi8) = _
    simp
  have e2 : (((encB ⟨t, c, v, x, l⟩)[i]).toNat : Int) = (encL ⟨t, c, v, x, l⟩)[i] := by
    rw [e1, u8B_nat (encL_range hok _ (List.getElem_mem _)).1 (encL_range hok _ (List.getElem_mem _)).2]
  exact congrArg (fun n : Int => some (Value.int .u8 n)) e2.symm
theorem Bytes.keep {w w' : World} {b o : Nat} {s : ByteArray} (h : Bytes w b o s) (hk : Kept w w') : Bytes w' b o s := fun i hi =>
  (hk.cell (p := ⟨b, o + i, none⟩) (World.block_lt_of_cell? _ _ (h i hi))).trans (h i hi)
theorem same_any (b1 b2 : Nat) (s1 s2 : ByteArray) (w : World) (h1 : Bytes w b1 0 s1) (h2 : Bytes w b2 0 s2) (z1 : s1.size = 8) (z2 : s2.size = 8) :
    Calls Tryd.prog 21 #[.slice (some ⟨b1, 0, none⟩) 8 8, .slice (some ⟨b2, 0, none⟩) 8 8] w fun e w' => e = .returned (.bool (s1.toList == s2.toList)) ∧ w = w' := by
  have r1 := run_convert_whole (P := Tryd.prog) w 43 5 9 Tryd.underlying43 Tryd.underlying5 Tryd.underlying9 b1 0 s1 h1 8
  have r2 := run_convert_whole (P := Tryd.prog) w 43 5 9 Tryd.underlying43 Tryd.underlying5 Tryd.underlying9 b2 0 s2 h2 8
  rw [z1] at r1
  rw [z2] at r2
  go_enter Tryd.func21, Tryd.ntmps21
  go_wp2
  go_ret
  exact ⟨rfl, rfl⟩
end Go.Proofs.YtfoeihbajichpaaDoor
