
/- CommandsBack returns true for every input, and leaves its arguments as they were. No condition but the card's own: the laid tables are as the program lays them. -/
import Derived.Test.YtfojemocffelhaaDoorTie
import Derived.Test.YtfojemocffelhaaDoorCards
import Derived.Test.YtfojemocffelhaaDoorFs
import Derived.Test.YtfojemocffelhaaDoorLu
namespace Go.Proofs.YtfojemocffelhaaDoor.lawBack
open Go.ChangeShapes Go.WideShapes Go.ChangeAt Go.RowKit
set_option linter.unusedVariables false
theorem cells47 : Tryd.prog.cellsOf 47 = 3 := by kernel_rfl
theorem cells23 : Tryd.prog.cellsOf 23 = 1 := by kernel_rfl
theorem cells24 : Tryd.prog.cellsOf 24 = 1 := by kernel_rfl
theorem u32_of {n : Int} (h : (Lit.int .u32 n).wf = true) : 0 ≤ n ∧ n < 4294967296 := by
  have : 0 ≤ n ∧ n ≤ 4294967295 := by simpa [Lit.wf, IntKind.min, IntKind.max, IntKind.signed, IntKind.bits] using h
  omega
theorem arr3 {c : Array Value} {x0 x1 x2 : Value} (hs : c.size = 3) (e0 : c.toList[0]? = some x0) (e1 : c.toList[1]? = some x1) (e2 : c.toList[2]? = some x2) : c = #[x0, x1, x2] := by
  obtain ⟨l⟩ := c
  match l, hs with
  | [y0, y1, y2], _ =>
    simp at e0 e1 e2
    simp [e0, e1, e2]
theorem arg_u8 {H : Type} {enc : TypeId × Value → H} {W : World} {n : Int} {d : DataW H} {p : List MemPlace} (h : DataW.Trod enc Tryd.prog W 0 (fun _ => true) true 5 (.int .u8 n) d p) : 0 ≤ n ∧ n < 256 := by
  obtain ⟨fuel, hf⟩ := h
  obtain ⟨m, hm, _, hw⟩ := DataW.trod_int Tryd.underlying5 hf
  have e : n = m := by simpa [Value.cells] using hm
  subst e
  exact u8_of hw
set_option maxRecDepth 100000 in
theorem lifted (os : Os) (started : os.Started) (H : Type) (enc : TypeId × Value → H) :
    ReturnsInHanded {} Tryd.checked os 5 .any (fun w args => (Rows.commandsBackSpec.pre enc Tryd.prog Tryd.f5 [] false w args ∧ laidMetH Tryd.prog Rows.commandsBackRow.laid w) ∧ sizedMet enc Tryd.prog Tryd.f5 (OpenSpec.ofChange Rows.commandsBackSpec) false w args)
      (Rows.commandsBackSpec.post enc Tryd.prog Tryd.f5 false true false false) := by
  refine returnsInHanded_of_change_and (C := Tryd.checked) (X := fun w _ => laidMetH Tryd.prog Rows.commandsBackRow.laid w) (fun _ _ _ hh h => h.of_heap hh) own started (by kernel_rfl) Tryd.func5
    (ChangeSpec.witness_at (enc := enc) (C := Tryd.checked) (os := os) (X := fun w _ => laidMetH Tryd.prog Rows.commandsBackRow.laid w) false (laidWorld6 os) #[.agg #[.int .u8 0, .int .u32 0, .int .u16 0], .int .u8 0, .int .u8 0] 8 rfl (by kernel_rfl) (by kernel_rfl) (by kernel_rfl) (by kernel_rfl) (by kernel_rfl) (laid_met6 os _)) ?_
  intro W base args ds gs before hval0 hW _ _ hL _
  have htab : Tabs W := tabs_of6 hL
  have hval : ∀ (j : Nat) t v, Tryd.f5.params[j]? = some t → args[j]? = some v → Value.okWide Tryd.prog W .any base t v := hval0
  have hW' := hW
  obtain ⟨p, q, hA0, hV, rfl, hfz, hnd⟩ := hW
  have hA : DataW.TrodAll enc Tryd.prog W 0 (fun _ => true) true Tryd.f5.params.toList args.toList ds p := hA0
  rw [Tryd.params5] at hA hval
  obtain ⟨v0, v1, v2, d0, d1, d2, p0, p1, p2, rfl, rfl, rfl, h0, h1, h2⟩ := trodAll_three hA
  obtain ⟨rfl, rfl⟩ := trodVars_none hV
  have k0 := h0
  have lt0 : ∀ x ∈ p0, x.block < W.heap.size := by obtain ⟨m, hm⟩ := k0; exact DataW.trod_lt m _ _ _ hm
  have k1 := h1
  have lt1 : ∀ x ∈ p1, x.block < W.heap.size := by obtain ⟨m, hm⟩ := k1; exact DataW.trod_lt m _ _ _ hm
  have k2 := h2
  have lt2 : ∀ x ∈ p2, x.block < W.heap.size := by obtain ⟨m, hm⟩ := k2; exact DataW.trod_lt m _ _ _ hm
  obtain ⟨c0, rfl, hs0⟩ := okWide_struct Tryd.underlying47 (hval 0 47 v0 rfl rfl)
  obtain ⟨more, rfl⟩ := okWide_int Tryd.underlying5 (hval 1 5 v1 rfl rfl)
  obtain ⟨bit, rfl⟩ := okWide_int Tryd.underlying5 (hval 2 5 v2 rfl rfl)
  have hm := arg_u8 h1
  have hb := arg_u8 h2
  obtain ⟨f0, t0⟩ := h0
  obtain ⟨u, eu, wu⟩ := field_int Tryd.underlying47 t0 0 _ rfl Tryd.underlying5 cells5
  obtain ⟨v, ev, wv⟩ := field_int Tryd.underlying47 t0 1 _ rfl Tryd.underlying23 cells23
  obtain ⟨q', eq, wq⟩ := field_int Tryd.underlying47 t0 2 _ rfl Tryd.underlying24 cells24
  have a0 := arr3 (hs0.trans cells47) eu ev eq
  clear hA0 hval0
  subst a0
  refine (back_law u v q' more bit W htab (u8_of wu).1 (u8_of wu).2 (u32_of wv).1 (u32_of wv).2 (u16_of wq).1 (u16_of wq).2 hm.1 hm.2 hb.1 hb.2).mono fun e W' ⟨he, bel⟩ => ?_
  subst he
  exact ⟨_, rfl, _, _, _, [], _, [], hW', trodAll_mk1 (shut_bool Tryd.underlying4 _), (trodAll_cons_mk (Below.trod laidOut (by kernel_rfl) (of_decide_eq_true (by kernel_rfl)) k0 bel lt0) (trodAll_cons_mk (Below.trod laidOut (by kernel_rfl) (of_decide_eq_true (by kernel_rfl)) k1 bel lt1) (trodAll_cons_mk (Below.trod laidOut (by kernel_rfl) (of_decide_eq_true (by kernel_rfl)) k2 bel lt2) trodAll_mk0))), rfl, bel.frame _, fun h => by cases h⟩
theorem over : Rows.commandsBackRow.holds Tryd.pinned (OpenSpec.ofChange Rows.commandsBackSpec) :=
  OpenClaim.holds_of_wide 5 Tryd.f5 rfl rfl rfl rfl rfl rfl rfl ⟨rfl, rfl, rfl, rfl, rfl⟩ rfl rfl rfl rfl rfl (by kernel_rfl) Tryd.func5 (by kernel_rfl)
    (of_decide_eq_true (by kernel_rfl)) (by unfold Func.isWrapper; first | (rw [if_pos (by decide +kernel)]; kernel_rfl) | (rw [if_neg (by decide +kernel)]; exact ⟨rfl, rfl⟩))
    (fun os started H enc _ => lifted os started H enc)
theorem proved : Rows.CommandsBackCardSaid :=
  Claim7.holds_tied_plain_at .later [] [.data, .data, .data, .data, .widerDeep, .pinned] true (true, "324740f5836a5d891147f54ff605f273956e4faef4cecb4465c5661ea8663ee5") false
    over (fun _ h => by cases h) (by kernel_rfl) (fun _ h => by cases h) commandsBack_row_tie rfl ⟨rfl, rfl⟩ (by kernel_rfl) rfl
    (fun f fn hf hfn => by
      obtain rfl : f = 5 := Option.some.inj ((show Tryd.prog.funcNamed Rows.commandsBackRow.func = some 5 by kernel_rfl).symm.trans hf) |>.symm
      obtain rfl : fn = Tryd.f5 := (Option.some.inj (Tryd.func5.symm.trans hfn)).symm
      exact ⟨by kernel_rfl, fun j t ht => by
        rw [Tryd.params5] at ht
        have hall : ∀ t ∈ Tryd.f5.params.toList, Tryd.prog.wantsStandIn t = false := by
          intro t ht
          rw [Tryd.params5] at ht
          simp only [List.mem_cons, List.not_mem_nil, or_false] at ht
          rcases ht with rfl | rfl | rfl
          all_goals kernel_rfl
        rw [Tryd.params5] at hall
        exact hall t (List.mem_of_getElem? (by simpa using ht))⟩)
    (by kernel_rfl)
#print axioms proved
end Go.Proofs.YtfojemocffelhaaDoor.lawBack
