
/- CommandsInquiry returns true for every input, and leaves its arguments as they were. No condition but the card's own: the laid tables are as the program lays them. -/
import Derived.Test.YtfojemocffelhaaDoorTie
import Derived.Test.YtfojemocffelhaaDoorCards
import Derived.Test.YtfojemocffelhaaDoorFs
import Derived.Test.YtfojemocffelhaaDoorIu
set_option linter.unusedVariables false
set_option linter.unusedSimpArgs false
set_option linter.unusedSectionVars false
namespace Go.Proofs.YtfojemocffelhaaDoor.lawInquiry
open Go.ChangeShapes Go.WideShapes Go.ChangeAt Go.RowKit
set_option linter.unusedVariables false
theorem cells55 : Tryd.prog.cellsOf 55 = 4 := by kernel_rfl
theorem cells57 : Tryd.prog.cellsOf 57 = 2 := by kernel_rfl
theorem cells9 : Tryd.prog.cellsOf 9 = 1 := by kernel_rfl
theorem cells4 : Tryd.prog.cellsOf 4 = 1 := by kernel_rfl
theorem cells23 : Tryd.prog.cellsOf 23 = 1 := by kernel_rfl
theorem u32_of {n : Int} (h : (Lit.int .u32 n).wf = true) : 0 ≤ n ∧ n < 4294967296 := by
  have : 0 ≤ n ∧ n ≤ 4294967295 := by simpa [Lit.wf, IntKind.min, IntKind.max, IntKind.signed, IntKind.bits] using h
  omega
theorem arr2 {c : Array Value} {x0 x1 : Value} (hs : c.size = 2) (e0 : c.toList[0]? = some x0) (e1 : c.toList[1]? = some x1) : c = #[x0, x1] := by
  obtain ⟨l⟩ := c
  match l, hs with
  | [y0, y1], _ =>
    simp at e0 e1
    simp [e0, e1]
theorem arr4 {c : Array Value} {x0 x1 x2 x3 : Value} (hs : c.size = 4) (e0 : c.toList[0]? = some x0) (e1 : c.toList[1]? = some x1) (e2 : c.toList[2]? = some x2) (e3 : c.toList[3]? = some x3) : c = #[x0, x1, x2, x3] := by
  obtain ⟨l⟩ := c
  match l, hs with
  | [y0, y1, y2, y3], _ =>
    simp at e0 e1 e2 e3
    simp [e0, e1, e2, e3]
theorem field_str {H : Type} {enc : TypeId × Value → H} {P : Program} {W : World} {base : Nat} {sp : Nat → Bool} {hd : Bool} {fuel : Nat} {t : TypeId} {cs : List Value} {x : DataW H × List MemPlace} {fs : Array Field}
    (ht : P.underlying t = some (.struct fs)) (h : DataW.trod enc P W base sp hd fuel t cs = some x) (i : Nat) (f : Field) (hf : fs[i]? = some f) (hk : P.underlying f.type = some .string) (h1 : P.cellsOf f.type = 1) :
    ∃ s : ByteArray, cs[f.offset]? = some (.string s) := by
  obtain ⟨xs, n, _, _, _, hl, hg⟩ := DataW.trod_struct ht h
  have hi : i < fs.size := (Array.getElem?_eq_some_iff.1 hf).1
  have h2 := hg i f hf
  rw [h1, List.getElem?_eq_getElem (by omega)] at h2
  obtain ⟨s, hm, _⟩ := DataW.trod_string hk h2
  refine ⟨s, ?_⟩
  have h3 := congrArg (fun l => l[0]?) hm
  simpa using h3
theorem field_bool {H : Type} {enc : TypeId × Value → H} {P : Program} {W : World} {base : Nat} {sp : Nat → Bool} {hd : Bool} {fuel : Nat} {t : TypeId} {cs : List Value} {x : DataW H × List MemPlace} {fs : Array Field}
    (ht : P.underlying t = some (.struct fs)) (h : DataW.trod enc P W base sp hd fuel t cs = some x) (i : Nat) (f : Field) (hf : fs[i]? = some f) (hk : P.underlying f.type = some .bool) (h1 : P.cellsOf f.type = 1) :
    ∃ b : Bool, cs[f.offset]? = some (.bool b) := by
  obtain ⟨xs, n, _, _, _, hl, hg⟩ := DataW.trod_struct ht h
  have hi : i < fs.size := (Array.getElem?_eq_some_iff.1 hf).1
  have h2 := hg i f hf
  rw [h1, List.getElem?_eq_getElem (by omega)] at h2
  obtain ⟨s, hm, _⟩ := DataW.trod_bool hk h2
  refine ⟨s, ?_⟩
  have h3 := congrArg (fun l => l[0]?) hm
  simpa using h3
set_option maxRecDepth 100000 in
theorem lifted (os : Os) (started : os.Started) (H : Type) (enc : TypeId × Value → H) :
    ReturnsInHanded {} Tryd.checked os 7 .any (fun w args => (Rows.commandsInquirySpec.pre enc Tryd.prog Tryd.f7 [] false w args ∧ laidMetH Tryd.prog Rows.commandsInquiryRow.laid w) ∧ sizedMet enc Tryd.prog Tryd.f7 (OpenSpec.ofChange Rows.commandsInquirySpec) false w args)
      (Rows.commandsInquirySpec.post enc Tryd.prog Tryd.f7 false true false false) := by
  refine returnsInHanded_of_change_and (C := Tryd.checked) (X := fun w _ => laidMetH Tryd.prog Rows.commandsInquiryRow.laid w) (fun _ _ _ hh h => h.of_heap hh) own started (by kernel_rfl) Tryd.func7
    (ChangeSpec.witness_at (enc := enc) (C := Tryd.checked) (os := os) (X := fun w _ => laidMetH Tryd.prog Rows.commandsInquiryRow.laid w) false (laidWorld6 os) #[.agg #[.string ⟨#[]⟩, .string ⟨#[]⟩, .string ⟨#[]⟩, .bool false], .slice none 0 0, .agg #[.int .u32 0, .int .u32 0]] 8 rfl (by kernel_rfl) (by kernel_rfl) (by kernel_rfl) (by kernel_rfl) (by kernel_rfl) (laid_met6 os _)) ?_
  intro W base args ds gs before hval0 hW _ _ hL _
  have htab : Tabs W := tabs_of6 hL
  have hval : ∀ (j : Nat) t v, Tryd.f7.params[j]? = some t → args[j]? = some v → Value.okWide Tryd.prog W .any base t v := hval0
  have hW' := hW
  obtain ⟨p, q, hA0, hV, rfl, hfz, hnd⟩ := hW
  have hA : DataW.TrodAll enc Tryd.prog W 0 (fun _ => true) true Tryd.f7.params.toList args.toList ds p := hA0
  rw [Tryd.params7] at hA hval
  obtain ⟨v0, v1, v2, d0, d1, d2, p0, p1, p2, rfl, rfl, rfl, h0, h1, h2⟩ := trodAll_three hA
  obtain ⟨rfl, rfl⟩ := trodVars_none hV
  have k0 := h0
  have lt0 : ∀ x ∈ p0, x.block < W.heap.size := by obtain ⟨m, hm⟩ := k0; exact DataW.trod_lt m _ _ _ hm
  have k1 := h1
  have lt1 : ∀ x ∈ p1, x.block < W.heap.size := by obtain ⟨m, hm⟩ := k1; exact DataW.trod_lt m _ _ _ hm
  have k2 := h2
  have lt2 : ∀ x ∈ p2, x.block < W.heap.size := by obtain ⟨m, hm⟩ := k2; exact DataW.trod_lt m _ _ _ hm
  obtain ⟨c0, rfl, hs0⟩ := okWide_struct Tryd.underlying55 (hval 0 55 v0 rfl rfl)
  obtain ⟨A, n, c, x, rfl, hnc, hc, hx, _⟩ := arg_slice Tryd.underlying32 opensL8 (hval 1 32 v1 rfl rfl) h1
  obtain ⟨c2, rfl, hs2⟩ := okWide_struct Tryd.underlying57 (hval 2 57 v2 rfl rfl)
  obtain ⟨f0, t0⟩ := h0
  obtain ⟨f2, t2⟩ := h2
  obtain ⟨sv, ev⟩ := field_str Tryd.underlying55 t0 0 _ rfl Tryd.underlying9 cells9
  obtain ⟨sp, ep⟩ := field_str Tryd.underlying55 t0 1 _ rfl Tryd.underlying9 cells9
  obtain ⟨sr, er⟩ := field_str Tryd.underlying55 t0 2 _ rfl Tryd.underlying9 cells9
  obtain ⟨sb, eb⟩ := field_bool Tryd.underlying55 t0 3 _ rfl Tryd.underlying4 cells4
  obtain ⟨u, eu, wu⟩ := field_int Tryd.underlying57 t2 0 _ rfl Tryd.underlying23 cells23
  obtain ⟨q', eq, wq⟩ := field_int Tryd.underlying57 t2 1 _ rfl Tryd.underlying23 cells23
  have a0 := arr4 (hs0.trans cells55) ev ep er eb
  have a2 := arr2 (hs2.trans cells57) eu eq
  clear hA0 hval0
  subst a0 a2
  have hu := u32_of wu
  have hq := u32_of wq
  obtain ⟨y, rfl⟩ : ∃ y : Nat, u = (y : Int) := ⟨u.toNat, by omega⟩
  obtain ⟨z, rfl⟩ : ∃ z : Nat, q' = (z : Int) := ⟨q'.toNat, by omega⟩
  refine (inq_law sv sp sr sb y z A n c x W htab hnc (by omega) (by omega) hx).mono fun e W' ⟨he, bel⟩ => ?_
  subst he
  exact ⟨_, rfl, _, _, _, [], _, [], hW', trodAll_mk1 (shut_bool Tryd.underlying4 _), (trodAll_cons_mk (Below.trod laidOut (by kernel_rfl) (of_decide_eq_true (by kernel_rfl)) k0 bel lt0) (trodAll_cons_mk (Below.trod laidOut (by kernel_rfl) (of_decide_eq_true (by kernel_rfl)) k1 bel lt1) (trodAll_cons_mk (Below.trod laidOut (by kernel_rfl) (of_decide_eq_true (by kernel_rfl)) k2 bel lt2) trodAll_mk0))), rfl, bel.frame _, fun h => by cases h⟩
theorem over : Rows.commandsInquiryRow.holds Tryd.pinned (OpenSpec.ofChange Rows.commandsInquirySpec) :=
  OpenClaim.holds_of_wide 7 Tryd.f7 rfl rfl rfl rfl rfl rfl rfl ⟨rfl, rfl, rfl, rfl, rfl⟩ rfl rfl rfl rfl rfl (by kernel_rfl) Tryd.func7 (by kernel_rfl)
    (of_decide_eq_true (by kernel_rfl)) (by unfold Func.isWrapper; first | (rw [if_pos (by decide +kernel)]; kernel_rfl) | (rw [if_neg (by decide +kernel)]; exact ⟨rfl, rfl⟩))
    (fun os started H enc _ => lifted os started H enc)
theorem proved : Rows.CommandsInquiryCardSaid :=
  Claim7.holds_tied_plain_at .later [] [.data, .data, .data, .data, .widerDeep, .pinned] true (true, "324740f5836a5d891147f54ff605f273956e4faef4cecb4465c5661ea8663ee5") false
    over (fun _ h => by cases h) (by kernel_rfl) (fun _ h => by cases h) commandsInquiry_row_tie rfl ⟨rfl, rfl⟩ (by kernel_rfl) rfl
    (fun f fn hf hfn => by
      obtain rfl : f = 7 := Option.some.inj ((show Tryd.prog.funcNamed Rows.commandsInquiryRow.func = some 7 by kernel_rfl).symm.trans hf) |>.symm
      obtain rfl : fn = Tryd.f7 := (Option.some.inj (Tryd.func7.symm.trans hfn)).symm
      exact ⟨by kernel_rfl, fun j t ht => by
        rw [Tryd.params7] at ht
        have hall : ∀ t ∈ Tryd.f7.params.toList, Tryd.prog.wantsStandIn t = false := by
          intro t ht
          rw [Tryd.params7] at ht
          simp only [List.mem_cons, List.not_mem_nil, or_false] at ht
          rcases ht with rfl | rfl | rfl
          all_goals kernel_rfl
        rw [Tryd.params7] at hall
        exact hall t (List.mem_of_getElem? (by simpa using ht))⟩)
    (by kernel_rfl)
#print axioms proved
end Go.Proofs.YtfojemocffelhaaDoor.lawInquiry
