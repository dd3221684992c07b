
import Derived.Shelf.Abstract
import Derived.Shelf.RegionOpen
import Derived.WalkKit
import Derived.OwnWalkIn
import Derived.TacticsInMore
import Derived.LoopNIn
import Derived.LoopIn
import Derived.Maps.AppendAt
import Derived.Test.YtdkinfglpnajmaaChecked

/- slices.AppendSeq and slices.Collect over a window. -/
import Derived.Test.YtdkinfglpnajmaaGm
set_option linter.unusedVariables false
set_option linter.unusedSimpArgs false
set_option linter.unusedSectionVars false
namespace Go.Proofs.Ytdkinfglpnajmaa
open Go.RowKit Go.Shelf

attribute [local go_sem] Oper.semAt_some

set_option maxRecDepth 100000 in
set_option maxHeartbeats 2000000 in
theorem appseq_any (L : List Pc) (hL : L.length ≤ 256) (lb : Array Value) (Bf Bt : Nat) (cf ct : List Value) (w : World) (hwin : ∀ W, Below w.heap.size w W → Window 3 lb L w.heap.size Bf Bt W) (hBf : w.heap[Bf]? = some (.cells cf.toArray 3 (0, 0))) (hBt : w.heap[Bt]? = some (.cells ct.toArray 3 (0, 0))) :
    Calls Try.prog 35 #[.slice none 0 0, .func (.func 32) #[] lb] w fun e w' => ∃ v, e = .returned v ∧ w'.ownsRow w.heap.size 44 2 v L.length (pcC L) ∧ Kept w w' := by
  obtain ⟨i44, hi44, hz0, hz1, hz2⟩ := info_parts info44
  refine callsIn_wide (n := 4).1 (callsIn_of_wp_marks Try.func35 rfl trivial ?_ rfl)
  (simp only [Try.ntmps35, List.size_toArray, List.length_cons, List.length_nil, Nat.reduceAdd, Nat.reduceSub, Array.replicate_succ, Array.replicate_zero, List.push_toArray, List.append_toArray, List.nil_append, List.cons_append])
  gi_wp2
  have hB0 : Below w.heap.size w (w.alloc (.cells #[.slice none 0 0] 24)) := (Below.refl _ w).alloc (Nat.le_refl _) _
  have bN := Boxed.new w 24 (.slice none 0 0)
  have hlf := heap_lt hBf
  have hlt := heap_lt hBt
  have hF0 := heap_past (o := .cells #[.slice none 0 0] 24) hBf
  have hT0 := heap_past (o := .cells #[.slice none 0 0] 24) hBt
  have hw1 := hwin _ hB0
  clear hwin hBf hBt
  refine range_win (by rfl) hw1 (by simp) (by simp; omega) (by simp; omega) (Grows w w.heap.size w.heap.size 24 Bf Bt cf ct (fun pre => pre)) (grows_own (by simp) (Nat.le_refl _))
    ⟨⟨⟨_, bN, World.ownsRow_nil _ _ _ _, trivial⟩, hB0⟩, hF0, hT0⟩
    (fun x Bp => { tmps := #[.slice none 0 0, .func (.func 32) #[] lb, .pointer (some ⟨w.heap.size, 0, none⟩), undef, .slice none 0 0, .pointer (some ⟨Bp, 0, none⟩), .func (.func 32) #[] lb, .agg #[.int .i64 x.pos, .int .i64 x.len], undef, undef, undef, undef, undef], defers := [] }) ?assign ?body ?done
  case assign =>
    intro l x W K hK
    gi_wp2
    exact hK
  case body =>
    rintro l pre x W₀ W hB₀ _ ⟨⟨⟨v, hv, hrow, _⟩, hB⟩, hF, hT⟩ _ hbp hpre
    have hc := hv.cell
    have hf := hv.frozen
    have hp0 : W.cell? ⟨W₀.heap.size, 0, none⟩ = some (.int .i64 x.pos) := cell_heap hbp rfl
    have hp1 : W.cell? ⟨W₀.heap.size, 1, none⟩ = some (.int .i64 x.len) := cell_heap hbp rfl
    have hp2 := heap_lt hbp
    have hlen : pre.length ≤ 256 := by
      have h1 := hpre.length_le
      rw [List.length_append] at h1
      omega
    clear hbp hpre
    have hpl : (0 : Int) ≤ pre.length := by omega
    replace hrow : W.ownsRow w.heap.size 44 2 v pre.length (pcC pre) := hrow
    have hBs := hB.size
    gi_wp2_with (gi_at_builtin; refine wpListIn_append_own_at _ rfl _ _ 24 rfl w.heap.size 44 i44 _ 2 16 Try.underlying24 hi44 hz0 hz1 hz2 rfl (by decide) _ _ _ rfl (hrow.alloc _) ⟨W.heap.size, 0, none⟩ 1 1 [.int .i64 x.pos, .int .i64 x.len] rfl rfl (cells_two_new _ _ _ _) (by simp [Value.oneCell']) (by unfold maxLen; omega) (by omega) (by simp; omega) ?_; intro v' w4 hown' hgrow _ hat; obtain ⟨g', cap', rfl⟩ := ownsRow_succ hown'; obtain ⟨hv1, hv2, hr2, hk2, hb2⟩ := hv.appended (by decide) hrow hBs (Nat.le_refl _) hown' hgrow; have hc1 := hv1.cell; have hf1 := hv1.frozen)
    have hkw := keepsW_append hv (by decide) hrow hBs (Nat.le_refl _) hown' hgrow hF hT (by omega) (by omega)
    refine ⟨hk2.from _, hkw, ⟨⟨⟨_, hv2, ?_, trivial⟩, hB.trans hb2⟩, hkw.f.trans hF, hkw.t.trans hT⟩⟩
    rw [pcC_snoc, List.length_append]
    exact hr2
  case done =>
    rintro D W hD ⟨⟨⟨v, hv, hrow, _⟩, hB⟩, hF, hT⟩ hK
    have hc := hv.cell
    replace hrow : W.ownsRow w.heap.size 44 2 v L.length (pcC L) := hrow
    have hkk := hB.trans (belowK_b (w := w) (Nat.le_refl _) W D _ (.deferred none) (by simp at hD; omega) hK rfl rfl)
    gi_wp2
    refine ⟨by simp, .inl ⟨_, _, rfl, run_takeDeferred hK, ?_⟩⟩
    exact ⟨_, results_tmp rfl _ _ _, v, rfl, ownsRow_putObj hrow _ hK rfl, hkk⟩
theorem collect_any (L : List Pc) (hL : L.length ≤ 256) (lb : Array Value) (Bf Bt : Nat) (cf ct : List Value) (w : World) (hwin : ∀ W, Below w.heap.size w W → Window 3 lb L w.heap.size Bf Bt W) (hBf : w.heap[Bf]? = some (.cells cf.toArray 3 (0, 0))) (hBt : w.heap[Bt]? = some (.cells ct.toArray 3 (0, 0))) :
    Calls Try.prog 33 #[.func (.func 32) #[] lb] w fun e w' => ∃ v, e = .returned v ∧ w'.ownsRow w.heap.size 44 2 v L.length (pcC L) ∧ Kept w w' := by
  have h := appseq_any L hL lb Bf Bt cf ct w hwin hBf hBt
  clear hBf hBt hwin
  go_enter Try.func33, Try.ntmps33
  go_wp2_with (go_at_call 35; refine h.mono ?_; rintro e w1 ⟨v, rfl, h1, h2⟩)
  go_ret
  exact ⟨v, rfl, h1, h2⟩
end Go.Proofs.Ytdkinfglpnajmaa
