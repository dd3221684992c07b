/- Rows of numbers that a call fills; what a match may be. No condition; nothing of the program. -/
import Derived.Test.YtgkhenplbljbbaaEa
import Derived.Test.YtgkhenplbljbbaaDc
set_option linter.unusedVariables false
set_option linter.unusedSimpArgs false
set_option linter.unusedSectionVars false
namespace Go.Proofs.Ytgkhenplbljbbaa
open Go.RowKit

/-- block g holds these numbers, and may be written -/
def Row (W : World) (g : Nat) (L : List Int) : Prop := ∀ j v, L[j]? = some v → W.cell? ⟨g, j, none⟩ = some (.int .i64 v) ∧ W.frozen? ⟨g, j, none⟩ = false
theorem Row.eq {W W' : World} {g : Nat} {L : List Int} (h : Row W g L) (hc : ∀ o, W'.cell? ⟨g, o, none⟩ = W.cell? ⟨g, o, none⟩) (hf : ∀ o, W'.frozen? ⟨g, o, none⟩ = W.frozen? ⟨g, o, none⟩) : Row W' g L :=
  fun j v hv => ⟨(hc j).trans (h j v hv).1, (hf j).trans (h j v hv).2⟩
theorem Row.kept {W W' : World} {g : Nat} {L : List Int} (h : Row W g L) (hg : g < W.heap.size) (hk : Kept W W') : Row W' g L :=
  h.eq (fun o => hk.cell (p := ⟨g, o, none⟩) hg) (fun o => hk.frozen (p := ⟨g, o, none⟩) hg)
theorem Row.other {W : World} {g : Nat} {L : List Int} (h : Row W g L) {p : Addr} (hp : p.block ≠ g) (u : Value) : Row (W.setCell p u) g L :=
  h.eq (fun o => World.cell?_setCell_other _ _ _ _ (fun e => hp (congrArg Addr.block e))) (fun o => by simp)
theorem Row.set {W : World} {g k : Nat} {L : List Int} (h : Row W g L) (hk : k < L.length) (v : Int) : Row (W.setCell ⟨g, k, none⟩ (.int .i64 v)) g (L.set k v) := by
  intro j u hu
  by_cases e : k = j
  · subst e
    rw [List.getElem?_set_self hk] at hu
    injection hu with hu
    subst hu
    obtain ⟨h1, h2⟩ := h k L[k] (List.getElem?_eq_getElem hk)
    exact ⟨World.cell?_setCell_same _ _ _ (by rw [h1]), by simpa using h2⟩
  · rw [List.getElem?_set_ne e] at hu
    obtain ⟨h1, h2⟩ := h j u hu
    exact ⟨(World.cell?_setCell_other _ _ _ _ (fun e' => e (by injection e'))).trans h1, by simpa using h2⟩
theorem Row.sl {W : World} {g : Nat} {L : List Int} {F : Nat → Prop} (h : Row W g L) (hg : F g) : Sl i64T W F (some ⟨g, 0, none⟩) L.length L :=
  ⟨rfl, fun i x hx => ⟨g, 0, [.int .i64 x], rfl, hg, ⟨rfl, trivial⟩, range_cons (by simpa [i64T, Ty.flat] using (h i x hx).1) range_nil⟩⟩
def fillL (f : List Int → Int) (l : List (List Int)) (k : Nat) : List Int := (l.take k).map f ++ List.replicate (l.length - k) 0
theorem fillL_len (f : List Int → Int) (l : List (List Int)) {k : Nat} (h : k ≤ l.length) : (fillL f l k).length = l.length := by
  unfold fillL; simp; omega
theorem fillL_set {f : List Int → Int} {l : List (List Int)} {k : Nat} {x : List Int} (h : l[k]? = some x) : (fillL f l k).set k (f x) = fillL f l (k + 1) := by
  obtain ⟨hk, e⟩ := List.getElem?_eq_some_iff.1 h
  unfold fillL
  rw [map_take_succ h, List.set_append_right _ _ (by simp; omega), show l.length - k = (l.length - (k + 1)) + 1 by omega, List.replicate_succ]
  have : k - ((l.take k).map f).length = 0 := by simp; omega
  rw [this, List.set_cons_zero, List.append_assoc]; rfl
theorem fillL_all (f : List Int → Int) (l : List (List Int)) : fillL f l l.length = l.map f := by
  unfold fillL; simp
theorem fillL_zero (f : List Int → Int) (l : List (List Int)) : fillL f l 0 = List.replicate l.length 0 := by
  unfold fillL; simp

/-- what a match may be: none, or a driver and its score -/
theorem matchS_range {l : List Drv} {d5 d6 i3 i4 i5 : Int} (hl : allR l (fun _ _ r => r.ok)) :
    (matchS (fun r => r.score d5 d6 i3 i4 i5) l = (-1, -1)) ∨ (0 ≤ (matchS (fun r => r.score d5 d6 i3 i4 i5) l).1 ∧ 0 ≤ (matchS (fun r => r.score d5 d6 i3 i4 i5) l).2 ∧ (matchS (fun r => r.score d5 d6 i3 i4 i5) l).2 < 256) := by
  obtain ⟨_, h⟩ := Inv.all (fun r => r.score d5 d6 i3 i4 i5) l
  rcases h with ⟨h1, h2⟩ | ⟨ka, ja, d, r, h1, h2, h3, h4, h5, _⟩
  · exact .inl (Prod.ext h1 h2)
  · refine .inr ⟨by omega, h5, ?_⟩
    rw [← h4]; exact (r.score_le (hl _ _ _ _ h2 h3) _ _ _ _ _).2
/-- the match of a setting -/
def mtS (l : List Drv) (d5 d6 : Int) (n : Int) : Int × Int := matchS (fun r => r.score d5 d6 (3 + n % 3) (n / 3 % 3) (n / 9 % 3)) l
def mtOk (mt : Int → Int × Int) : Prop := ∀ n, mt n = (-1, -1) ∨ (0 ≤ (mt n).1 ∧ 0 ≤ (mt n).2 ∧ (mt n).2 < 256)
theorem mtS_ok {l : List Drv} (hl : allR l (fun _ _ r => r.ok)) (d5 d6 : Int) : mtOk (mtS l d5 d6) := fun _ => matchS_range hl
theorem oneAt_bound (mt : Int → Int × Int) (x : List Int) : 0 ≤ oneAt mt x ∧ oneAt mt x ≤ 1 := by unfold oneAt; split <;> omega
theorem sumAt_bound {mt : Int → Int × Int} (h : mtOk mt) (x : List Int) : 0 ≤ sumAt mt x ∧ sumAt mt x ≤ 256 := by
  unfold sumAt
  split
  · omega
  · rename_i n t
    split
    · rename_i h0
      rcases h n with h | h
      · rw [h] at h0; exact absurd h0 (by decide)
      · omega
    · omega
theorem at_no {mt : Int → Int × Int} {n : Int} {t : List Int} (h : mt n = (-1, -1)) : drvAt mt (n :: t) = -1 ∧ oneAt mt (n :: t) = 0 ∧ sumAt mt (n :: t) = 0 := by
  simp [drvAt, oneAt, sumAt, h]
theorem at_yes {mt : Int → Int × Int} {n : Int} {t : List Int} (h : 0 ≤ (mt n).1) : drvAt mt (n :: t) = (mt n).1 ∧ oneAt mt (n :: t) = 1 ∧ sumAt mt (n :: t) = (mt n).2 := by
  simp [drvAt, oneAt, sumAt, h]
theorem at_nil (mt : Int → Int × Int) : drvAt mt [] = -1 ∧ oneAt mt [] = 0 ∧ sumAt mt [] = 0 := by simp [drvAt, oneAt, sumAt]
theorem total_take (f : List Int → Int) {B : Int} (hf : ∀ x, 0 ≤ f x ∧ f x ≤ B) (hB : 0 ≤ B) (l : List (List Int)) (k : Nat) (h : l.length ≤ 5) : 0 ≤ total f (l.take k) ∧ total f (l.take k) ≤ 5 * B := by
  have h1 := total_bound hf (l.take k)
  have h2 : ((l.take k).length : Int) * B ≤ 5 * B := Int.mul_le_mul_of_nonneg_right (by simp; omega) hB
  omega
end Go.Proofs.Ytgkhenplbljbbaa
