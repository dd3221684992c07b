
/- The functions that make requests. The numbers lie in their kinds. -/
import Derived.Test.YtfoeihbajichpaaDoorChecked
import Derived.Deep.RegionHeld3
import Derived.Deep.DrawnRows
import Derived.Deep.DeepCutAuto
import Derived.Deep.LoopGhost
import Derived.Outline
import Derived.Handy
import Derived.OwnWalk
import Derived.Laws.EntriesVeiled
import Derived.Test.YtfoeihbajichpaaDoorSh
set_option linter.unusedVariables false
set_option linter.unusedSimpArgs false
set_option linter.unusedSectionVars false
namespace Go.Proofs.YtfoeihbajichpaaDoor
open Go.RowKit Go.Lib Go.Maps Go.WideShapes
attribute [local go_sem ↓] Go.wp_at_zero Go.wp_at_succ

def wayI (i : Bool) (r : Int) : Int := if i then 128 + r else r
set_option maxRecDepth 100000 in
set_option maxHeartbeats 16000000 in
theorem std_any (c r v x n : Int) (i : Bool) (k : FK) (w : World) (c0 : 0 ≤ c) (c1 : c < 256) (r0 : 0 ≤ r) (r1 : r < 256) (hr : rowF c = some (i, n, k)) (hi : (i = true ∧ n = 2) ∨ (i = false ∧ n = 0) ∨ (i = true ∧ n = -1) ∨ (i = true ∧ n = 1)) :
    Calls Tryd.prog 47 #[.int .u8 c, .int .u8 r, .int .u16 v, .int .u16 x] w fun e w' => e = .returned (.agg #[.int .u8 (wayI i (r % 32)), .int .u8 c, .int .u16 v, .int .u16 x, .int .u16 (max n 0)]) ∧ Kept w w' := by
  have HT := fun W => table_some c W c0 c1 hr
  have hor := or128 (n := r % 32) (by omega) (by omega)
  clear hr
  rcases hi with ⟨rfl, rfl⟩ | ⟨rfl, rfl⟩ | ⟨rfl, rfl⟩ | ⟨rfl, rfl⟩
  · skip
    go_enter Tryd.func47, Tryd.ntmps47
    go_wp2_with (go_at_call 33; refine (HT _).mono ?_; rintro e w2 ⟨b, f, caps, rfl, hl1, hl2, hF, hk⟩; obtain ⟨hcq, hfq⟩ := bcell hk; have hzq := hk.size; simp only [World.size_alloc] at hcq hfq hzq; have q0 := hl2 _ (Below.refl _ _); have hlt2 : w.heap.size < w2.heap.size := (by omega); have HK := Lib.hid hk; clear hl1 hl2 hk)
    have hkw : Kept w w2 := Below.trans (by go_grown) (HK.out.mono (by simp only [World.size_alloc]; omega))
    refine bodyPost_ret (v := .agg #[.int .u8 (128 + r % 32), .int .u8 c, .int .u16 v, .int .u16 x, .int .u16 (max (2) 0)]) (by simp [results, Tryd.results47, go_sem, hlt2, hcq, hfq]) rfl ⟨rfl, ?_⟩
    go_grown
  · skip
    go_enter Tryd.func47, Tryd.ntmps47
    go_wp2_with (go_at_call 33; refine (HT _).mono ?_; rintro e w2 ⟨b, f, caps, rfl, hl1, hl2, hF, hk⟩; obtain ⟨hcq, hfq⟩ := bcell hk; have hzq := hk.size; simp only [World.size_alloc] at hcq hfq hzq; have q0 := hl2 _ (Below.refl _ _); have hlt2 : w.heap.size < w2.heap.size := (by omega); have HK := Lib.hid hk; clear hl1 hl2 hk)
    have hkw : Kept w w2 := Below.trans (by go_grown) (HK.out.mono (by simp only [World.size_alloc]; omega))
    refine bodyPost_ret (v := .agg #[.int .u8 (r % 32), .int .u8 c, .int .u16 v, .int .u16 x, .int .u16 (max (0) 0)]) (by simp [results, Tryd.results47, go_sem, hlt2, hcq, hfq]) rfl ⟨rfl, ?_⟩
    go_grown
  · skip
    go_enter Tryd.func47, Tryd.ntmps47
    go_wp2_with (go_at_call 33; refine (HT _).mono ?_; rintro e w2 ⟨b, f, caps, rfl, hl1, hl2, hF, hk⟩; obtain ⟨hcq, hfq⟩ := bcell hk; have hzq := hk.size; simp only [World.size_alloc] at hcq hfq hzq; have q0 := hl2 _ (Below.refl _ _); have hlt2 : w.heap.size < w2.heap.size := (by omega); have HK := Lib.hid hk; clear hl1 hl2 hk)
    have hkw : Kept w w2 := Below.trans (by go_grown) (HK.out.mono (by simp only [World.size_alloc]; omega))
    refine bodyPost_ret (v := .agg #[.int .u8 (128 + r % 32), .int .u8 c, .int .u16 v, .int .u16 x, .int .u16 (max (-1) 0)]) (by simp [results, Tryd.results47, go_sem, hlt2, hcq, hfq]) rfl ⟨rfl, ?_⟩
    go_grown
  · skip
    go_enter Tryd.func47, Tryd.ntmps47
    go_wp2_with (go_at_call 33; refine (HT _).mono ?_; rintro e w2 ⟨b, f, caps, rfl, hl1, hl2, hF, hk⟩; obtain ⟨hcq, hfq⟩ := bcell hk; have hzq := hk.size; simp only [World.size_alloc] at hcq hfq hzq; have q0 := hl2 _ (Below.refl _ _); have hlt2 : w.heap.size < w2.heap.size := (by omega); have HK := Lib.hid hk; clear hl1 hl2 hk)
    have hkw : Kept w w2 := Below.trans (by go_grown) (HK.out.mono (by simp only [World.size_alloc]; omega))
    refine bodyPost_ret (v := .agg #[.int .u8 (128 + r % 32), .int .u8 c, .int .u16 v, .int .u16 x, .int .u16 (max (1) 0)]) (by simp [results, Tryd.results47, go_sem, hlt2, hcq, hfq]) rfl ⟨rfl, ?_⟩
    go_grown
end Go.Proofs.YtfoeihbajichpaaDoor
