

/- DriversScore returns true for every input, and leaves its arguments as they were. No condition. -/
import Derived.Test.YtgkhenplbljbbaaRows
import Derived.Test.YtgkhenplbljbbaaLs
import Derived.Test.YtgkhenplbljbbaaOd
namespace Go.Proofs.Ytgkhenplbljbbaa.lawScore
open Go.ChangeShapes Go.WideShapes Go.ChangeAt Go.RowKit
set_option linter.unusedVariables false
theorem okWide_array {P : Program} {w : World} {r : Reach} {b : Nat} {t : TypeId} {n : Nat} {e : TypeId} {v : Value} (hs : P.underlying t = some (.array n e)) (h : Value.okWide P w r b t v) : ∃ cs, v = .agg cs ∧ cs.size = P.cellsOf t := by
  simp only [Value.okWide, hs] at h
  obtain ⟨cs, h1, h2, _⟩ := h
  exact ⟨cs, h1, h2⟩
theorem elem_int {H : Type} {enc : TypeId × Value → H} {P : Program} {W : World} {base : Nat} {sp : Nat → Bool} {hd : Bool} {fuel : Nat} {t e : TypeId} {cs : List Value} {x : DataW H × List MemPlace} {n : Nat} {k : IntKind}
    (ht : P.underlying t = some (.array n e)) (h : DataW.trod enc P W base sp hd fuel t cs = some x) (i : Nat) (hi : i < n) (hk : P.underlying e = some (.int k)) (h1 : P.cellsOf e = 1) :
    ∃ m, cs[i]? = some (.int k m) ∧ (Lit.int k m).wf = true := by
  obtain ⟨xs, q, _, _, _, hl, hg⟩ := DataW.trod_array ht h
  have h2 := hg i hi
  rw [h1, List.getElem?_eq_getElem (by omega), Nat.mul_one] at h2
  obtain ⟨m, hm, _, hw⟩ := DataW.trod_int hk h2
  exact ⟨m, by have h3 := congrArg (fun l => l[0]?) hm; simpa using h3, hw⟩
theorem arr2 {c : Array Value} {x0 x1 : Value} (hs : c.size = 2) (e0 : c.toList[0]? = some x0) (e1 : c.toList[1]? = some x1) : c = #[x0, x1] := by
  obtain ⟨l⟩ := c
  match l, hs with
  | [y0, y1], _ =>
    simp at e0 e1
    simp [e0, e1]
theorem arr6 {c : Array Value} {x0 x1 x2 x3 x4 x5 : Value} (hs : c.size = 6) (e0 : c.toList[0]? = some x0) (e1 : c.toList[1]? = some x1) (e2 : c.toList[2]? = some x2) (e3 : c.toList[3]? = some x3) (e4 : c.toList[4]? = some x4) (e5 : c.toList[5]? = some x5) : c = #[x0, x1, x2, x3, x4, x5] := by
  obtain ⟨l⟩ := c
  match l, hs with
  | [y0, y1, y2, y3, y4, y5], _ =>
    simp at e0 e1 e2 e3 e4 e5
    simp [e0, e1, e2, e3, e4, e5]
theorem arr7 {c : Array Value} {x0 x1 x2 x3 x4 x5 x6 : Value} (hs : c.size = 7) (e0 : c.toList[0]? = some x0) (e1 : c.toList[1]? = some x1) (e2 : c.toList[2]? = some x2) (e3 : c.toList[3]? = some x3) (e4 : c.toList[4]? = some x4) (e5 : c.toList[5]? = some x5) (e6 : c.toList[6]? = some x6) : c = #[x0, x1, x2, x3, x4, x5, x6] := by
  obtain ⟨l⟩ := c
  match l, hs with
  | [y0, y1, y2, y3, y4, y5, y6], _ =>
    simp at e0 e1 e2 e3 e4 e5 e6
    simp [e0, e1, e2, e3, e4, e5, e6]
theorem cells29 : Try.prog.cellsOf 29 = 1 := by kernel_rfl
theorem cells43 : Try.prog.cellsOf 43 = 6 := by kernel_rfl
theorem cells46 : Try.prog.cellsOf 46 = 7 := by kernel_rfl
theorem cells54 : Try.prog.cellsOf 54 = 2 := by kernel_rfl
theorem own : ownKnob Try.prog.godebug = none := by kernel_rfl
theorem laidOut : laidOutB Try.prog = true := by kernel_rfl
set_option maxRecDepth 100000 in
theorem lifted (os : Os) (started : os.Started) (H : Type) (enc : TypeId × Value → H) :
    ReturnsInHanded {} Try.checked os 4 .any (Rows.driversScoreSpec.pre6 enc Try.prog Try.f4 Rows.driversScoreRow.domain false) (Rows.driversScoreSpec.post enc Try.prog Try.f4 false true false false) := by
  refine returnsInHanded_of_change (C := Try.checked) own started (by kernel_rfl) Try.func4
    (ChangeSpec.witness6 (enc := enc) (C := Try.checked) false ⟨#[], #[.agg #[.int .u8 0, .int .u16 0, .int .u16 0, .int .u8 0, .int .u8 0, .int .u8 0], .agg #[.int .u8 0, .int .u8 0, .int .u8 0, .int .u8 0, .int .u8 0, .int .u8 0, .int .u8 0], .agg #[.int .u8 0, .int .u8 0]], []⟩ 8 (by kernel_rfl) (by kernel_rfl) (by kernel_rfl) (by kernel_rfl)) ?_
  intro W base args ds gs before hval0 hW hcnd _
  have hval : ∀ (j : Nat) t v, Try.f4.params[j]? = some t → args[j]? = some v → Value.okWide Try.prog W .any base t v := hval0
  have hW' := hW
  obtain ⟨p, q, hA0, hV, rfl, hfz, hnd⟩ := hW
  have hA : DataW.TrodAll enc Try.prog W 0 (fun _ => true) true Try.f4.params.toList args.toList ds p := hA0
  rw [Try.params4] at hA hval
  obtain ⟨v0, v1, v2, d0, d1, d2, p0, p1, p2, rfl, rfl, rfl, h0, h1, h2⟩ := trodAll_three hA
  obtain ⟨rfl, rfl⟩ := trodVars_none hV
  have k0 := h0
  have lt0 : ∀ x ∈ p0, x.block < W.heap.size := by obtain ⟨m, hm⟩ := k0; exact DataW.trod_lt m _ _ _ hm
  have k1 := h1
  have lt1 : ∀ x ∈ p1, x.block < W.heap.size := by obtain ⟨m, hm⟩ := k1; exact DataW.trod_lt m _ _ _ hm
  have k2 := h2
  have lt2 : ∀ x ∈ p2, x.block < W.heap.size := by obtain ⟨m, hm⟩ := k2; exact DataW.trod_lt m _ _ _ hm
  obtain ⟨c0, rfl, hs0⟩ := okWide_struct Try.underlying43 (hval 0 43 v0 rfl rfl)
  obtain ⟨c1, rfl, hs1⟩ := okWide_struct Try.underlying46 (hval 1 46 v1 rfl rfl)
  obtain ⟨c2, rfl, hs2⟩ := okWide_array Try.underlying54 (hval 2 54 v2 rfl rfl)
  obtain ⟨f0, t0⟩ := h0
  obtain ⟨f1, t1⟩ := h1
  obtain ⟨f2, t2⟩ := h2
  obtain ⟨u, eu, wu⟩ := field_int Try.underlying43 t0 0 _ rfl Try.underlying5 cells5
  obtain ⟨v, ev, wv⟩ := field_int Try.underlying43 t0 1 _ rfl Try.underlying29 cells29
  obtain ⟨p', ep, wp⟩ := field_int Try.underlying43 t0 2 _ rfl Try.underlying29 cells29
  obtain ⟨c, ec, wc⟩ := field_int Try.underlying43 t0 3 _ rfl Try.underlying5 cells5
  obtain ⟨s, es, ws⟩ := field_int Try.underlying43 t0 4 _ rfl Try.underlying5 cells5
  obtain ⟨q', eq, wq⟩ := field_int Try.underlying43 t0 5 _ rfl Try.underlying5 cells5
  obtain ⟨i0, ei0, wi0⟩ := field_int Try.underlying46 t1 0 _ rfl Try.underlying5 cells5
  obtain ⟨i1, ei1, wi1⟩ := field_int Try.underlying46 t1 1 _ rfl Try.underlying5 cells5
  obtain ⟨i2, ei2, wi2⟩ := field_int Try.underlying46 t1 2 _ rfl Try.underlying5 cells5
  obtain ⟨i3, ei3, wi3⟩ := field_int Try.underlying46 t1 3 _ rfl Try.underlying5 cells5
  obtain ⟨i4, ei4, wi4⟩ := field_int Try.underlying46 t1 4 _ rfl Try.underlying5 cells5
  obtain ⟨i5, ei5, wi5⟩ := field_int Try.underlying46 t1 5 _ rfl Try.underlying5 cells5
  obtain ⟨i6, ei6, wi6⟩ := field_int Try.underlying46 t1 6 _ rfl Try.underlying5 cells5
  obtain ⟨z0, ez0, wz0⟩ := elem_int Try.underlying54 t2 0 (by decide) Try.underlying5 cells5
  obtain ⟨z1, ez1, wz1⟩ := elem_int Try.underlying54 t2 1 (by decide) Try.underlying5 cells5
  have a0 := arr6 (hs0.trans cells43) eu ev ep ec es eq
  have a1 := arr7 (hs1.trans cells46) ei0 ei1 ei2 ei3 ei4 ei5 ei6
  have a2 := arr2 (hs2.trans cells54) ez0 ez1
  clear hA0 hval0
  subst a0 a1 a2
  refine (dscore_walk u v p' c s q' i0 i1 i2 i3 i4 i5 i6 z0 z1 W (u8_of wu) (u8_of wz0) (u8_of wz1)).mono fun e W' ⟨he, bel⟩ => ?_
  subst he
  exact ⟨_, rfl, _, _, _, [], _, [], hW', trodAll_mk1 (shut_bool Try.underlying4 _), (trodAll_cons_mk (Below.trod laidOut (by kernel_rfl) (of_decide_eq_true (by kernel_rfl)) k0 bel lt0) (trodAll_cons_mk (Below.trod laidOut (by kernel_rfl) (of_decide_eq_true (by kernel_rfl)) k1 bel lt1) (trodAll_cons_mk (Below.trod laidOut (by kernel_rfl) (of_decide_eq_true (by kernel_rfl)) k2 bel lt2) trodAll_mk0))), rfl, bel.frame _, fun h => by cases h⟩
theorem over : Rows.driversScoreRow.holds Try.pinned (OpenSpec.ofChange Rows.driversScoreSpec) :=
  OpenClaim.holds_of_wide 4 Try.f4 rfl rfl rfl rfl rfl rfl rfl ⟨rfl, rfl, rfl, rfl, rfl⟩ rfl rfl rfl rfl rfl (by kernel_rfl) Try.func4 (by kernel_rfl)
    (of_decide_eq_true (by kernel_rfl)) (by unfold Func.isWrapper; first | (rw [if_pos (by decide +kernel)]; kernel_rfl) | (rw [if_neg (by decide +kernel)]; exact ⟨rfl, rfl⟩))
    (fun os started H enc _ => lifted os started H enc)
theorem proved : Rows.DriversScoreSaid := over
#print axioms proved
end Go.Proofs.Ytgkhenplbljbbaa.lawScore
