

/- DriversChoose returns true for every input, and leaves its arguments as they were. No condition. -/
import Derived.Test.YtgkhenplbljbbaaRows
import Derived.Test.YtgkhenplbljbbaaLc
import Derived.Test.YtgkhenplbljbbaaOd
namespace Go.Proofs.Ytgkhenplbljbbaa.lawChoose
open Go.ChangeShapes Go.WideShapes Go.ChangeAt Go.RowKit
set_option linter.unusedVariables false
theorem field_opens {α : Type} {T : Ty α} {ok : α → Prop} {H : Type} {enc : TypeId × Value → H} {P : Program} {W : World} {fuel : Nat} {t : TypeId} {cs : List Value} {x : DataW H × List MemPlace} {fs : Array Field}
    (ht : P.underlying t = some (.struct fs)) (h : DataW.trod enc P W 0 (fun _ => true) true fuel t cs = some x) (i : Nat) (f : Field) (hf : fs[i]? = some f) (h1 : P.cellsOf f.type = 1) (hs : T.size = 1) (ho : Opens P f.type T ok) :
    ∃ c a, cs[f.offset]? = some c ∧ T.rel W (low W.heap.size) a [c] ∧ ok a := by
  obtain ⟨xs, n, _, _, _, hl, hg⟩ := DataW.trod_struct ht h
  have hi : i < fs.size := (Array.getElem?_eq_some_iff.1 hf).1
  have h2 := hg i f hf
  rw [h1, List.getElem?_eq_getElem (by omega)] at h2
  obtain ⟨a, ha, hok⟩ := ho h2
  have hT := (T.len ha).trans hs
  cases hc : cs[f.offset]? with
  | none =>
    rw [List.getElem?_eq_none_iff] at hc
    rw [List.drop_of_length_le hc] at hT
    simp at hT
  | some c =>
    obtain ⟨hlt, e⟩ := List.getElem?_eq_some_iff.1 hc
    rw [List.drop_eq_getElem_cons hlt, e] at ha
    exact ⟨c, a, rfl, by simpa using ha, hok⟩
theorem arr2 {c : Array Value} {x0 x1 : Value} (hs : c.size = 2) (e0 : c.toList[0]? = some x0) (e1 : c.toList[1]? = some x1) : c = #[x0, x1] := by
  obtain ⟨l⟩ := c
  match l, hs with
  | [y0, y1], _ =>
    simp at e0 e1
    simp [e0, e1]
theorem opens8 : Opens Try.prog 5 u8T (fun _ => True) := by
  intro H enc W fuel cs x hx
  obtain ⟨m, hm, _, hw⟩ := DataW.trod_int Try.underlying5 hx
  exact ⟨m, ⟨hm, u8_of hw⟩, trivial⟩
theorem cells98 : Try.prog.cellsOf 98 = 2 := by kernel_rfl
theorem cells26 : Try.prog.cellsOf 26 = 1 := by kernel_rfl
theorem cells35 : Try.prog.cellsOf 35 = 1 := by kernel_rfl
theorem cells37 : Try.prog.cellsOf 37 = 2 := by kernel_rfl
theorem opens26 : Opens Try.prog 26 u8T.slice (fun _ => True) := by
  intro H enc W fuel cs x hx
  obtain ⟨a, ha, _⟩ := opens_slice Try.underlying26 cells5 (by decide) opens8 hx
  exact ⟨a, ha, trivial⟩
set_option maxRecDepth 100000 in
theorem opensC : Opens Try.prog 98 cpT (fun _ => True) := by
  intro H enc W fuel cs x hx
  obtain ⟨n0, e0, w0⟩ := field_int Try.underlying98 hx 0 _ rfl Try.underlying5 cells5
  obtain ⟨c1', a, e1, ha, _⟩ := field_opens Try.underlying98 hx 1 _ rfl cells26 rfl opens26
  obtain ⟨xs, n, _, _, hl, _, _⟩ := DataW.trod_struct Try.underlying98 hx
  rw [cells98] at hl
  match cs, hl with
  | [c0, c1], _ =>
    have a0 : c0 = .int .u8 n0 := by simpa using e0
    have a1 : c1 = c1' := by simpa using e1
    subst a0 a1
    obtain ⟨A, c, e, h1, h2, h3⟩ := ha
    injection e with e _
    subst e
    exact ⟨⟨n0, a⟩, ⟨A, c, rfl, h1, h2, u8_of w0, h3⟩, trivial⟩
theorem opens35 : Opens Try.prog 35 cpT.slice (fun _ => True) := by
  intro H enc W fuel cs x hx
  obtain ⟨a, ha, _⟩ := opens_slice Try.underlying35 cells98 (by decide) opensC hx
  exact ⟨a, ha, trivial⟩
theorem own : ownKnob Try.prog.godebug = none := by kernel_rfl
theorem laidOut : laidOutB Try.prog = true := by kernel_rfl
set_option maxRecDepth 100000 in
theorem lifted (os : Os) (started : os.Started) (H : Type) (enc : TypeId × Value → H) :
    ReturnsInHanded {} Try.checked os 6 .any (Rows.driversChooseSpec.pre6 enc Try.prog Try.f6 Rows.driversChooseRow.domain false) (Rows.driversChooseSpec.post enc Try.prog Try.f6 false true false false) := by
  refine returnsInHanded_of_change (C := Try.checked) own started (by kernel_rfl) Try.func6
    (ChangeSpec.witness6 (enc := enc) (C := Try.checked) false ⟨#[], #[.slice none 0 0, .agg #[.int .u8 0, .slice none 0 0], .int .u16 0], []⟩ 8 (by kernel_rfl) (by kernel_rfl) (by kernel_rfl) (by kernel_rfl)) ?_
  intro W base args ds gs before hval0 hW hcnd _
  have hval : ∀ (j : Nat) t v, Try.f6.params[j]? = some t → args[j]? = some v → Value.okWide Try.prog W .any base t v := hval0
  have hW' := hW
  obtain ⟨p, q, hA0, hV, rfl, hfz, hnd⟩ := hW
  have hA : DataW.TrodAll enc Try.prog W 0 (fun _ => true) true Try.f6.params.toList args.toList ds p := hA0
  rw [Try.params6] at hA hval
  obtain ⟨v0, v1, v2, d0, d1, d2, p0, p1, p2, rfl, rfl, rfl, h0, h1, h2⟩ := trodAll_three hA
  obtain ⟨rfl, rfl⟩ := trodVars_none hV
  have k0 := h0
  have lt0 : ∀ x ∈ p0, x.block < W.heap.size := by obtain ⟨m, hm⟩ := k0; exact DataW.trod_lt m _ _ _ hm
  have k1 := h1
  have lt1 : ∀ x ∈ p1, x.block < W.heap.size := by obtain ⟨m, hm⟩ := k1; exact DataW.trod_lt m _ _ _ hm
  have k2 := h2
  have lt2 : ∀ x ∈ p2, x.block < W.heap.size := by obtain ⟨m, hm⟩ := k2; exact DataW.trod_lt m _ _ _ hm
  obtain ⟨A, n, c, x, rfl, hnc, hc, hx, hok⟩ := arg_slice Try.underlying23 opensD (hval 0 23 v0 rfl rfl) h0
  obtain ⟨c1, rfl, hs1⟩ := okWide_struct Try.underlying37 (hval 1 37 v1 rfl rfl)
  obtain ⟨f, rfl, rfl, rfl, w2⟩ := open_int Try.underlying29 (hval 2 29 v2 rfl rfl) h2
  obtain ⟨f1, t1⟩ := h1
  obtain ⟨ids, ei, wi⟩ := field_int Try.underlying37 t1 0 _ rfl Try.underlying5 cells5
  obtain ⟨cc, y, ec, hyr, _⟩ := field_opens Try.underlying37 t1 1 _ rfl cells35 rfl opens35
  obtain ⟨B, cm, e, hm1, hm2, hy⟩ := hyr
  injection e with e _
  subst e
  have a1 := arr2 (hs1.trans cells37) ei ec
  clear hA0 hval0
  subst a1
  have hu := u16_of w2
  refine (dchoose_walk A n c x ids B y.length cm y f W (by omega) hx hok (by omega) hy (u8_of wi) hu.1 hu.2).mono fun e W' ⟨he, bel⟩ => ?_
  subst he
  exact ⟨_, rfl, _, _, _, [], _, [], hW', trodAll_mk1 (shut_bool Try.underlying4 _), (trodAll_cons_mk (Below.trod laidOut (by kernel_rfl) (of_decide_eq_true (by kernel_rfl)) k0 bel lt0) (trodAll_cons_mk (Below.trod laidOut (by kernel_rfl) (of_decide_eq_true (by kernel_rfl)) k1 bel lt1) (trodAll_cons_mk (Below.trod laidOut (by kernel_rfl) (of_decide_eq_true (by kernel_rfl)) k2 bel lt2) trodAll_mk0))), rfl, bel.frame _, fun h => by cases h⟩
theorem over : Rows.driversChooseRow.holds Try.pinned (OpenSpec.ofChange Rows.driversChooseSpec) :=
  OpenClaim.holds_of_wide 6 Try.f6 rfl rfl rfl rfl rfl rfl rfl ⟨rfl, rfl, rfl, rfl, rfl⟩ rfl rfl rfl rfl rfl (by kernel_rfl) Try.func6 (by kernel_rfl)
    (of_decide_eq_true (by kernel_rfl)) (by unfold Func.isWrapper; first | (rw [if_pos (by decide +kernel)]; kernel_rfl) | (rw [if_neg (by decide +kernel)]; exact ⟨rfl, rfl⟩))
    (fun os started H enc _ => lifted os started H enc)
theorem proved : Rows.DriversChooseSaid := over
#print axioms proved
end Go.Proofs.Ytgkhenplbljbbaa.lawChoose
