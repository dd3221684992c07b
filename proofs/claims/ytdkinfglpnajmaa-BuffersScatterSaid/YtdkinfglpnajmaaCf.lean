

/- BuffersScatter returns true for every input, and leaves its arguments as they were. No condition. -/
import Derived.Test.YtdkinfglpnajmaaRows
import Derived.Test.YtdkinfglpnajmaaLf
import Derived.Test.YtdkinfglpnajmaaOq
set_option linter.unusedVariables false
set_option linter.unusedSimpArgs false
set_option linter.unusedSectionVars false
namespace Go.Proofs.Ytdkinfglpnajmaa.lawScatter
open Go.ChangeShapes Go.WideShapes Go.ChangeAt Go.RowKit
set_option linter.unusedVariables false
theorem scatter_all (A D : Option Addr) (n c nd cd : Nat) (x : List (UInt8 × UInt8)) (ds : List UInt8) (w : World) (hl : Sl ppT w (low w.heap.size) A n x) (hnc : n ≤ c) (hc : c ≤ maxLen) (hD : Sl u8T w (low w.heap.size) D nd ds) (hnd : nd ≤ cd) (hcd : cd ≤ maxLen) :
    Calls Try.prog 4 #[.slice A n c, .slice D nd cd] w fun e w' => e = .returned (.bool true) ∧ Kept w w' := by
  by_cases h : nd ≤ 80
  · exact scatter_law A D n c nd cd x ds w hl hnc hc hD h hnd hcd
  · exact scatter_long A D n c nd cd w (by omega) hnd hcd
theorem own : ownKnob Try.prog.godebug = none := by kernel_rfl
theorem laidOut : laidOutB Try.prog = true := by kernel_rfl
set_option maxRecDepth 100000 in
theorem lifted (os : Os) (started : os.Started) (H : Type) (enc : TypeId × Value → H) :
    ReturnsInHanded {} Try.checked os 4 .any (Rows.buffersScatterSpec.pre6 enc Try.prog Try.f4 Rows.buffersScatterRow.domain false) (Rows.buffersScatterSpec.post enc Try.prog Try.f4 false true false false) := by
  refine returnsInHanded_of_change (C := Try.checked) own started (by kernel_rfl) Try.func4
    (ChangeSpec.witness6 (enc := enc) (C := Try.checked) false ⟨#[], #[.slice none 0 0, .slice none 0 0], []⟩ 8 (by kernel_rfl) (by kernel_rfl) (by kernel_rfl) (by kernel_rfl)) ?_
  intro W base args ds gs before hval0 hW hcnd _
  have hval : ∀ (j : Nat) t v, Try.f4.params[j]? = some t → args[j]? = some v → Value.okWide Try.prog W .any base t v := hval0
  have hW' := hW
  obtain ⟨p, q, hA0, hV, rfl, hfz, hnd⟩ := hW
  have hA : DataW.TrodAll enc Try.prog W 0 (fun _ => true) true Try.f4.params.toList args.toList ds p := hA0
  rw [Try.params4] at hA hval
  obtain ⟨v0, v1, d0, d1, p0, p1, rfl, rfl, rfl, h0, h1⟩ := trodAll_two hA
  obtain ⟨rfl, rfl⟩ := trodVars_none hV
  have k0 := h0
  have lt0 : ∀ x ∈ p0, x.block < W.heap.size := by obtain ⟨m, hm⟩ := k0; exact DataW.trod_lt m _ _ _ hm
  have k1 := h1
  have lt1 : ∀ x ∈ p1, x.block < W.heap.size := by obtain ⟨m, hm⟩ := k1; exact DataW.trod_lt m _ _ _ hm
  obtain ⟨A, n, c, x, rfl, hnc, hc, hx, _⟩ := arg_slice Try.underlying23 opensL (hval 0 23 v0 rfl rfl) h0
  obtain ⟨D, nd, cd, ds, rfl, hnd, hcd, hds, _⟩ := arg_slice Try.underlying29 opensB (hval 1 29 v1 rfl rfl) h1
  clear hA0 hval0
  refine (scatter_all A D n c nd cd x ds W hx hnc hc hds hnd hcd).mono fun e W' ⟨he, bel⟩ => ?_
  subst he
  exact ⟨_, rfl, _, _, _, [], _, [], hW', trodAll_mk1 (shut_bool Try.underlying4 _), (trodAll_cons_mk (Below.trod laidOut (by kernel_rfl) (of_decide_eq_true (by kernel_rfl)) k0 bel lt0) (trodAll_cons_mk (Below.trod laidOut (by kernel_rfl) (of_decide_eq_true (by kernel_rfl)) k1 bel lt1) trodAll_mk0)), rfl, bel.frame _, fun h => by cases h⟩
theorem over : Rows.buffersScatterRow.holds Try.pinned (OpenSpec.ofChange Rows.buffersScatterSpec) :=
  OpenClaim.holds_of_wide 4 Try.f4 rfl rfl rfl rfl rfl rfl rfl ⟨rfl, rfl, rfl, rfl, rfl⟩ rfl rfl rfl rfl rfl (by kernel_rfl) Try.func4 (by kernel_rfl)
    (of_decide_eq_true (by kernel_rfl)) (by unfold Func.isWrapper; first | (rw [if_pos (by decide +kernel)]; kernel_rfl) | (rw [if_neg (by decide +kernel)]; exact ⟨rfl, rfl⟩))
    (fun os started H enc _ => lifted os started H enc)
theorem proved : Rows.BuffersScatterSaid := over
#print axioms proved
end Go.Proofs.Ytdkinfglpnajmaa.lawScatter
