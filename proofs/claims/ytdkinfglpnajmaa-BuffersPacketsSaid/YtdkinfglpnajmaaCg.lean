

/- BuffersPackets returns true for every input, and leaves its arguments as they were. No condition. -/
import Derived.Test.YtdkinfglpnajmaaRows
import Derived.Test.YtdkinfglpnajmaaLj
import Derived.Test.YtdkinfglpnajmaaOq
set_option linter.unusedVariables false
set_option linter.unusedSimpArgs false
set_option linter.unusedSectionVars false
namespace Go.Proofs.Ytdkinfglpnajmaa.lawPackets
open Go.ChangeShapes Go.WideShapes Go.ChangeAt Go.RowKit
set_option linter.unusedVariables false
theorem packets_all (A D : Option Addr) (n c nd cd : Nat) (x : List (UInt8 × UInt8)) (ds : List UInt8) (most : Int) (w : World) (hl : Sl ppT w (low w.heap.size) A n x) (hnc : n ≤ c) (hc : c ≤ maxLen) (hD : Sl u8T w (low w.heap.size) D nd ds) (hnd : nd ≤ cd) (hcd : cd ≤ maxLen) (hm : i64 most) :
    Calls Try.prog 6 #[.slice A n c, .slice D nd cd, .int .i64 most] w fun e w' => e = .returned (.bool true) ∧ Kept w w' := by
  by_cases h : nd ≤ 80
  · by_cases h1 : most < 1
    · exact packets_few A D n c nd cd x ds most w hl hnc hc h hnd hcd h1
    · exact packets_law A D n c nd cd x ds most w hl hnc hc hD h hnd hcd (by omega) hm
  · exact packets_long A D n c nd cd most w (by omega) hnd hcd
theorem own : ownKnob Try.prog.godebug = none := by kernel_rfl
theorem laidOut : laidOutB Try.prog = true := by kernel_rfl
set_option maxRecDepth 100000 in
theorem lifted (os : Os) (started : os.Started) (H : Type) (enc : TypeId × Value → H) :
    ReturnsInHanded {} Try.checked os 6 .any (Rows.buffersPacketsSpec.pre6 enc Try.prog Try.f6 Rows.buffersPacketsRow.domain false) (Rows.buffersPacketsSpec.post enc Try.prog Try.f6 false true false false) := by
  refine returnsInHanded_of_change (C := Try.checked) own started (by kernel_rfl) Try.func6
    (ChangeSpec.witness6 (enc := enc) (C := Try.checked) false ⟨#[], #[.slice none 0 0, .slice none 0 0, .int .i64 0], []⟩ 8 (by kernel_rfl) (by kernel_rfl) (by kernel_rfl) (by kernel_rfl)) ?_
  intro W base args ds gs before hval0 hW hcnd _
  have hval : ∀ (j : Nat) t v, Try.f6.params[j]? = some t → args[j]? = some v → Value.okWide Try.prog W .any base t v := hval0
  have hW' := hW
  obtain ⟨p, q, hA0, hV, rfl, hfz, hnd⟩ := hW
  have hA : DataW.TrodAll enc Try.prog W 0 (fun _ => true) true Try.f6.params.toList args.toList ds p := hA0
  rw [Try.params6] at hA hval
  obtain ⟨v0, v1, v2, d0, d1, d2, p0, p1, p2, rfl, rfl, rfl, h0, h1, h2⟩ := trodAll_three hA
  obtain ⟨rfl, rfl⟩ := trodVars_none hV
  have k0 := h0
  have lt0 : ∀ x ∈ p0, x.block < W.heap.size := by obtain ⟨m, hm⟩ := k0; exact DataW.trod_lt m _ _ _ hm
  have k1 := h1
  have lt1 : ∀ x ∈ p1, x.block < W.heap.size := by obtain ⟨m, hm⟩ := k1; exact DataW.trod_lt m _ _ _ hm
  have k2 := h2
  have lt2 : ∀ x ∈ p2, x.block < W.heap.size := by obtain ⟨m, hm⟩ := k2; exact DataW.trod_lt m _ _ _ hm
  obtain ⟨A, n, c, x, rfl, hnc, hc, hx, _⟩ := arg_slice Try.underlying23 opensL (hval 0 23 v0 rfl rfl) h0
  obtain ⟨D, nd, cd, ds, rfl, hndD, hcdD, hds, _⟩ := arg_slice Try.underlying29 opensB (hval 1 29 v1 rfl rfl) h1
  obtain ⟨f, rfl, rfl, rfl, w1⟩ := open_int Try.underlying3 (hval 2 3 v2 rfl rfl) h2
  clear hA0 hval0
  refine (packets_all A D n c nd cd x ds f W hx hnc hc hds hndD hcdD (i64_wf w1)).mono fun e W' ⟨he, bel⟩ => ?_
  subst he
  exact ⟨_, rfl, _, _, _, [], _, [], hW', trodAll_mk1 (shut_bool Try.underlying4 _), (trodAll_cons_mk (Below.trod laidOut (by kernel_rfl) (of_decide_eq_true (by kernel_rfl)) k0 bel lt0) (trodAll_cons_mk (Below.trod laidOut (by kernel_rfl) (of_decide_eq_true (by kernel_rfl)) k1 bel lt1) (trodAll_cons_mk (Below.trod laidOut (by kernel_rfl) (of_decide_eq_true (by kernel_rfl)) k2 bel lt2) trodAll_mk0))), rfl, bel.frame _, fun h => by cases h⟩
theorem over : Rows.buffersPacketsRow.holds Try.pinned (OpenSpec.ofChange Rows.buffersPacketsSpec) :=
  OpenClaim.holds_of_wide 6 Try.f6 rfl rfl rfl rfl rfl rfl rfl ⟨rfl, rfl, rfl, rfl, rfl⟩ rfl rfl rfl rfl rfl (by kernel_rfl) Try.func6 (by kernel_rfl)
    (of_decide_eq_true (by kernel_rfl)) (by unfold Func.isWrapper; first | (rw [if_pos (by decide +kernel)]; kernel_rfl) | (rw [if_neg (by decide +kernel)]; exact ⟨rfl, rfl⟩))
    (fun os started H enc _ => lifted os started H enc)
theorem proved : Rows.BuffersPacketsSaid := over
#print axioms proved
end Go.Proofs.Ytdkinfglpnajmaa.lawPackets
