/- The switch, its beginning. -/
import Derived.Test.YtegdigfcgeoboaaChecked
import Derived.Deep.RegionHeld3
import Derived.Deep.DrawnRows
import Derived.Deep.DeepCutAuto
import Derived.Deep.LoopGhost
import Derived.Outline
import Derived.Handy
import Derived.OwnWalk
import Derived.Test.YtegdigfcgeoboaaN2
import Derived.Test.YtegdigfcgeoboaaN19
import Derived.Test.YtegdigfcgeoboaaN22
set_option linter.unusedVariables false
set_option linter.unusedSimpArgs false
set_option linter.unusedSectionVars false
/- The switch, from region 54 on. Printed by gen_m.py. -/
namespace Go.Proofs.Ytegdigfcgeoboaa
open Go.RowKit Go.Maps
attribute [local go_sem ↓] Go.wp_at_zero Go.wp_at_succ

noncomputable def codeM54 : Code := (Try.f13.body.bind (findR 54)).getD .skip
set_option maxRecDepth 1000000 in
set_option maxHeartbeats 8000000 in
theorem sw_54 {Q : Exit → Act → World → Prop} {W : World} {base n c R M S X : Nat} {A : Option Addr} {vs vu vf vc : Value} {s : RS} {i : Int} {x : It} {a : Act} {cc : Int} (hcc : x.ty * 16 + x.tg = cc) (ha : Live a A n c R M S X vs vu s s i x cc) (h : Sit W base R M S X vs vu vf vc s x)
    (hs : s.Fine) (hw : x.wide = true) (hok : x.ok) (hN : OkN Q W base A n c R M S X s i x) (hE : OkE Q W R s x) (hP : ∀ c a d v w, Q (.panic c) (a.put d v) w → Q (.panic c) a w) (hne : ∀ v ∈ ([27, 26, 25, 24, 23, 22, 21, 20, 19, 18, 17, 16] : List Int), cc ≠ v) (K : Act → World → Prop) (hK : ∀ a w', Code.wp Try.prog (restC codeM54) Q a w' → K a w') : Code.wp Try.prog (headC codeM54) (Exit.then K Q) a W := by
  obtain ⟨us, rfl⟩ := ha
  conv => arg 2; whnf
  conv at hK => enter [a, w', 1, 2]; whnf
  dsimp only
  obtain ⟨w1, w2, w3, w4, _⟩ := wide_iff hw hok
  have hMl := heap_lt h.md.bm
  have hSl := heap_lt h.md.bs
  have hXl := heap_lt h.bx
  have hRl := heap_lt h.br
  have hMS := h.md.low.2.2
  obtain ⟨l1, l2, l3⟩ := h.low
  have r0 : W.cell? ⟨R, 0, none⟩ = some (.slice none 0 0) := cell_heap h.br (o := 0) rfl
  have r1 : W.cell? ⟨R, 1, none⟩ = some (.slice none 0 0) := cell_heap h.br (o := 1) rfl
  have r2 : W.cell? ⟨R, 2, none⟩ = some (.bool false) := cell_heap h.br (o := 2) rfl
  have g0 := frozen_heap h.br (o := 0)
  have g1 := frozen_heap h.br (o := 1)
  have g2 := frozen_heap h.br (o := 2)
  by_cases hv : cc = 32
  · subst hv
    have h1 : x.ty = 2 := by omega
    have h2 : x.tg = 0 := by omega
    have hF : effS s x = addS s (usageS s x) (usageS s x) := by simp [effS, h1, h2]
    have hu := usage_range hs hw hok
    have hul := hs.usages.1
    unfold u32k at hu
    obtain ⟨A7, c7, rfl, hB1, hB2⟩ := h.md.us.isSlice
    obtain ⟨i1, hi1, hz0, hz1, hz2⟩ := info_parts info27
    obtain ⟨u, hue⟩ : ∃ u, usageS s x = u := ⟨_, rfl⟩
    rw [hue] at hF hu ⊢
    by_cases hd : 512 ≤ s.usages.length
    · have hd' : decide ((s.usages.length : Int) = 512) = true := decide_eq_true (by omega)
      have hd2 : ((s.usages.length : Int) == 512) = true := by rw [beq_iff_eq]; omega
      have hF3 : effS s x = (3, s) := by rw [hF]; unfold addS; rw [if_pos (by omega)]
      go_wp2_with fail
      refine hE _ _ 3 (by rw [hF3]) (by decide) rfl rfl rfl ?_ ?_
      · exact (zeroed h.br).1
      · exact (zeroed h.br).2
    · have hd' : decide ((s.usages.length : Int) = 512) = false := decide_eq_false (by omega)
      have hd2 : ((s.usages.length : Int) == 512) = false := beq_false_of_ne (by omega)
      have hw32 : IntKind.u32.wrap u = u := by rw [IntKind.wrap_u32]; omega
      have hF0 : effS s x = (0, { s with usages := s.usages ++ [u] }) := by
        rw [hF]
        unfold addS
        rw [if_neg (by omega), show u - u + 1 = 1 by omega]
        have e : (List.range (1 : Int).toNat).map (fun (i : Nat) => u + (i : Int)) = [u] := by simp
        rw [e]
      go_wp2_with (at_builtin; go_must (refine wpList_append_el (T := u32T) rfl (.tmp 154) (.tmp 157) 57 rfl base 27 i1 _ 4 Try.underlying57 hi1 hz0 hz1 hz2 rfl (by decide) _ s.usages.length s.usages (by rfl) (h.md.us.alloc _) W.heap.size _ _ u (by rfl) (heap_at _ rfl) ⟨rfl, hu⟩ (by simp [Value.oneCell']) (by unfold maxLen; omega) (by omega) (Nat.le_trans h.hb (by simp)) ?_); intro g cap w4 hown4 hg4 hb4 hat4 hlt4)
      have hkW : Kept W (W.alloc (.cells #[.int .u32 u] 27)) := (Below.refl _ _).alloc (Nat.le_refl _) _
      refine hN _ _ vs _ vf vc _ (hF0) (frame_end rfl rfl rfl rfl rfl rfl rfl rfl rfl rfl rfl rfl) ((h.kept hkW).usTo (v' := .slice (some ⟨g, 0, none⟩) (s.usages.length + 1) cap) hg4 (by rw [List.length_append]; exact hown4) (hat4.elim (fun e => .inr (.inl e.symm)) (fun e => .inr (.inr (by rw [e]; rfl))))) ((FrM.kept hkW h.hb).trans (FrM.below hb4))
  · have hv' : decide (cc = 32) = false := decide_eq_false hv
    go_upto_region 58 with (fail)
    refine sw_58 hcc (frame_item rfl rfl rfl rfl rfl rfl rfl rfl rfl rfl rfl rfl rfl rfl rfl rfl) h hs hw hok hN hE hP ?_ _ ?_
    · intro u hu
      rcases List.mem_cons.1 hu with rfl | hu
      · exact hv
      · exact hne u hu
    all_goals assumption
end Go.Proofs.Ytegdigfcgeoboaa
/- The switch, from region 49 on. Printed by gen_m.py. -/
namespace Go.Proofs.Ytegdigfcgeoboaa
open Go.RowKit Go.Maps
attribute [local go_sem ↓] Go.wp_at_zero Go.wp_at_succ

noncomputable def codeM49 : Code := (Try.f13.body.bind (findR 49)).getD .skip
set_option maxRecDepth 1000000 in
set_option maxHeartbeats 8000000 in
theorem sw_49 {Q : Exit → Act → World → Prop} {W : World} {base n c R M S X : Nat} {A : Option Addr} {vs vu vf vc : Value} {s : RS} {i : Int} {x : It} {a : Act} {cc : Int} (hcc : x.ty * 16 + x.tg = cc) (ha : Live a A n c R M S X vs vu s s i x cc) (h : Sit W base R M S X vs vu vf vc s x)
    (hs : s.Fine) (hw : x.wide = true) (hok : x.ok) (hN : OkN Q W base A n c R M S X s i x) (hE : OkE Q W R s x) (hP : ∀ c a d v w, Q (.panic c) (a.put d v) w → Q (.panic c) a w) (hne : ∀ v ∈ ([26, 25, 24, 23, 22, 21, 20, 19, 18, 17, 16] : List Int), cc ≠ v) (K : Act → World → Prop) (hK : ∀ a w', Code.wp Try.prog (restC codeM49) Q a w' → K a w') : Code.wp Try.prog (headC codeM49) (Exit.then K Q) a W := by
  obtain ⟨us, rfl⟩ := ha
  conv => arg 2; whnf
  conv at hK => enter [a, w', 1, 2]; whnf
  dsimp only
  obtain ⟨w1, w2, w3, w4, _⟩ := wide_iff hw hok
  have hMl := heap_lt h.md.bm
  have hSl := heap_lt h.md.bs
  have hXl := heap_lt h.bx
  have hRl := heap_lt h.br
  have hMS := h.md.low.2.2
  obtain ⟨l1, l2, l3⟩ := h.low
  have r0 : W.cell? ⟨R, 0, none⟩ = some (.slice none 0 0) := cell_heap h.br (o := 0) rfl
  have r1 : W.cell? ⟨R, 1, none⟩ = some (.slice none 0 0) := cell_heap h.br (o := 1) rfl
  have r2 : W.cell? ⟨R, 2, none⟩ = some (.bool false) := cell_heap h.br (o := 2) rfl
  have g0 := frozen_heap h.br (o := 0)
  have g1 := frozen_heap h.br (o := 1)
  have g2 := frozen_heap h.br (o := 2)
  by_cases hv : cc = 27
  · subst hv
    have h1 : x.ty = 1 := by omega
    have h2 : x.tg = 11 := by omega
    have hE' : effS s x = (match s.stack.getLast? with | none => (4, s) | some g => (0, { s with g := g, stack := s.stack.dropLast })) := by
      unfold effS
      rw [if_neg (by omega), if_pos h1, if_neg (by omega), if_neg (by omega), if_neg (by omega), if_neg (by omega), if_neg (by omega), if_neg (by omega), if_neg (by omega), if_neg (by omega), if_pos h2]
      cases s.stack.getLast? <;> rfl
    have hdp := hs.depth
    obtain ⟨A6, c6, rfl, hA1, hA2⟩ := h.md.st.isSlice
    have p0 : W.cell? ⟨S, 0, none⟩ = some (.int .i64 s.g.page) := cell_heap h.md.bs (o := 0) rfl
    have f0 := frozen_heap h.md.bs (o := 0)
    have p1 : W.cell? ⟨S, 1, none⟩ = some (.int .i64 s.g.lo) := cell_heap h.md.bs (o := 1) rfl
    have f1 := frozen_heap h.md.bs (o := 1)
    have p2 : W.cell? ⟨S, 2, none⟩ = some (.int .i64 s.g.hi) := cell_heap h.md.bs (o := 2) rfl
    have f2 := frozen_heap h.md.bs (o := 2)
    have p3 : W.cell? ⟨S, 3, none⟩ = some (.int .i64 s.g.size) := cell_heap h.md.bs (o := 3) rfl
    have f3 := frozen_heap h.md.bs (o := 3)
    have p4 : W.cell? ⟨S, 4, none⟩ = some (.int .i64 s.g.count) := cell_heap h.md.bs (o := 4) rfl
    have f4 := frozen_heap h.md.bs (o := 4)
    have p5 : W.cell? ⟨S, 5, none⟩ = some (.int .i64 s.g.report) := cell_heap h.md.bs (o := 5) rfl
    have f5 := frozen_heap h.md.bs (o := 5)
    by_cases hd : s.stack.length = 0
    · have hF : effS s x = (4, s) := by rw [hE', List.eq_nil_of_length_eq_zero hd]; rfl
      have hd' : ((s.stack.length : Int) == 0) = true := by rw [hd]; rfl
      have hd2 : decide ((s.stack.length : Int) = 0) = true := decide_eq_true (by omega)
      go_wp2_with fail
      refine hE _ _ 4 (by rw [hF]) (by decide) rfl rfl rfl ?_ ?_
      · exact (zeroed h.br).1
      · exact (zeroed h.br).2
    · obtain ⟨m, hm⟩ : ∃ m, s.stack.length = m + 1 := ⟨s.stack.length - 1, by omega⟩
      obtain ⟨y, b, off, cs, hy, rfl, hbb, ⟨rfl, _⟩, hcs⟩ := h.md.st.sl.at (show m < s.stack.length by omega)
      have hF : effS s x = (0, { s with g := y, stack := s.stack.dropLast }) := by
        rw [hE', show s.stack.getLast? = some y by rw [List.getLast?_eq_getElem?, hm]; exact hy]
      have hbl : b < W.heap.size := hbb
      have hoff : off = 0 := by
        rcases h.md.st.form with ⟨e, _⟩ | ⟨g, cap, e, _⟩
        · cases e
        · injection e with e; injection e with e; injection e
      subst hoff
      have y0 : W.cell? ⟨b, m * 6, none⟩ = some (.int .i64 y.page) := by simpa [show glM.size = 6 from rfl] using hcs 0 _ rfl
      have y1 : W.cell? ⟨b, m * 6 + 1, none⟩ = some (.int .i64 y.lo) := by simpa [show glM.size = 6 from rfl] using hcs 1 _ rfl
      have y2 : W.cell? ⟨b, m * 6 + 2, none⟩ = some (.int .i64 y.hi) := by simpa [show glM.size = 6 from rfl] using hcs 2 _ rfl
      have y3 : W.cell? ⟨b, m * 6 + 3, none⟩ = some (.int .i64 y.size) := by simpa [show glM.size = 6 from rfl] using hcs 3 _ rfl
      have y4 : W.cell? ⟨b, m * 6 + 4, none⟩ = some (.int .i64 y.count) := by simpa [show glM.size = 6 from rfl] using hcs 4 _ rfl
      have y5 : W.cell? ⟨b, m * 6 + 5, none⟩ = some (.int .i64 y.report) := by simpa [show glM.size = 6 from rfl] using hcs 5 _ rfl
      clear hcs
      have hst := h.md.st
      rw [hm] at hst hA1 ⊢
      have hd' : (((m + 1 : Nat) : Int) == 0) = false := beq_false_of_ne (by omega)
      have hd2 : decide (((m + 1 : Nat) : Int) = 0) = false := decide_eq_false (by omega)
      have hw6 : IntKind.i64.wrap (((m + 1 : Nat) : Int) - 1) = (m : Int) := by rw [IntKind.wrap_i64]; omega
      go_wp2_with fail
      have h6 := ((((((h.setS 0 (.int .i64 y.page) (s' := { s with g := { s.g with page := y.page } }) rfl rfl rfl rfl rfl rfl).setS 1 (.int .i64 y.lo) (s' := { s with g := { s.g with page := y.page, lo := y.lo } }) rfl rfl rfl rfl rfl rfl).setS 2 (.int .i64 y.hi) (s' := { s with g := { s.g with page := y.page, lo := y.lo, hi := y.hi } }) rfl rfl rfl rfl rfl rfl).setS 3 (.int .i64 y.size) (s' := { s with g := { s.g with page := y.page, lo := y.lo, hi := y.hi, size := y.size } }) rfl rfl rfl rfl rfl rfl).setS 4 (.int .i64 y.count) (s' := { s with g := { s.g with page := y.page, lo := y.lo, hi := y.hi, size := y.size, count := y.count } }) rfl rfl rfl rfl rfl rfl).setS 5 (.int .i64 y.report) (s' := { s with g := { s.g with page := y.page, lo := y.lo, hi := y.hi, size := y.size, count := y.count, report := y.report } }) rfl rfl rfl rfl rfl rfl)
      have ht := h6.md.st.take (k := m) (by show m ≤ s.stack.length; omega)
      have hdl : s.stack.take m = s.stack.dropLast := by rw [List.dropLast_eq_take, hm]; rfl
      have h7 := h6.stTo (v' := .slice (some ⟨b, 0, none⟩) m c6) (l := s.stack.dropLast) grown_self (by rw [← hdl, List.length_take, Nat.min_eq_left (by omega)]; exact ht) (.inr (.inl rfl))
      refine hN _ _ _ vu vf vc _ (hF) (frame_end rfl rfl rfl rfl rfl rfl rfl rfl rfl rfl rfl rfl) (h7) ((((((FrM.setS 0 _).trans (FrM.setS 1 _)).trans (FrM.setS 2 _)).trans (FrM.setS 3 _)).trans (FrM.setS 4 _)).trans (FrM.setS 5 _))
  · have hv' : decide (cc = 27) = false := decide_eq_false hv
    go_upto_region 54 with (fail)
    refine sw_54 hcc (frame_item rfl rfl rfl rfl rfl rfl rfl rfl rfl rfl rfl rfl rfl rfl rfl rfl) h hs hw hok hN hE hP ?_ _ ?_
    · intro u hu
      rcases List.mem_cons.1 hu with rfl | hu
      · exact hv
      · exact hne u hu
    all_goals assumption
end Go.Proofs.Ytegdigfcgeoboaa
/- The switch, from region 45 on. Printed by gen_m.py. -/
namespace Go.Proofs.Ytegdigfcgeoboaa
open Go.RowKit Go.Maps
attribute [local go_sem ↓] Go.wp_at_zero Go.wp_at_succ

noncomputable def codeM45 : Code := (Try.f13.body.bind (findR 45)).getD .skip
set_option maxRecDepth 1000000 in
set_option maxHeartbeats 8000000 in
theorem sw_45 {Q : Exit → Act → World → Prop} {W : World} {base n c R M S X : Nat} {A : Option Addr} {vs vu vf vc : Value} {s : RS} {i : Int} {x : It} {a : Act} {cc : Int} (hcc : x.ty * 16 + x.tg = cc) (ha : Live a A n c R M S X vs vu s s i x cc) (h : Sit W base R M S X vs vu vf vc s x)
    (hs : s.Fine) (hw : x.wide = true) (hok : x.ok) (hN : OkN Q W base A n c R M S X s i x) (hE : OkE Q W R s x) (hP : ∀ c a d v w, Q (.panic c) (a.put d v) w → Q (.panic c) a w) (hne : ∀ v ∈ ([25, 24, 23, 22, 21, 20, 19, 18, 17, 16] : List Int), cc ≠ v) (K : Act → World → Prop) (hK : ∀ a w', Code.wp Try.prog (restC codeM45) Q a w' → K a w') : Code.wp Try.prog (headC codeM45) (Exit.then K Q) a W := by
  obtain ⟨us, rfl⟩ := ha
  conv => arg 2; whnf
  conv at hK => enter [a, w', 1, 2]; whnf
  dsimp only
  obtain ⟨w1, w2, w3, w4, _⟩ := wide_iff hw hok
  have hMl := heap_lt h.md.bm
  have hSl := heap_lt h.md.bs
  have hXl := heap_lt h.bx
  have hRl := heap_lt h.br
  have hMS := h.md.low.2.2
  obtain ⟨l1, l2, l3⟩ := h.low
  have r0 : W.cell? ⟨R, 0, none⟩ = some (.slice none 0 0) := cell_heap h.br (o := 0) rfl
  have r1 : W.cell? ⟨R, 1, none⟩ = some (.slice none 0 0) := cell_heap h.br (o := 1) rfl
  have r2 : W.cell? ⟨R, 2, none⟩ = some (.bool false) := cell_heap h.br (o := 2) rfl
  have g0 := frozen_heap h.br (o := 0)
  have g1 := frozen_heap h.br (o := 1)
  have g2 := frozen_heap h.br (o := 2)
  by_cases hv : cc = 26
  · subst hv
    have h1 : x.ty = 1 := by omega
    have h2 : x.tg = 10 := by omega
    have hF : effS s x = if 8 ≤ s.stack.length then (3, s) else (0, { s with stack := s.stack ++ [s.g] }) := by simp [effS, h1, h2]
    have hdp := hs.depth
    obtain ⟨A6, c6, rfl, hA1, hA2⟩ := h.md.st.isSlice
    have p0 : W.cell? ⟨S, 0, none⟩ = some (.int .i64 s.g.page) := cell_heap h.md.bs (o := 0) rfl
    have f0 := frozen_heap h.md.bs (o := 0)
    have p1 : W.cell? ⟨S, 1, none⟩ = some (.int .i64 s.g.lo) := cell_heap h.md.bs (o := 1) rfl
    have f1 := frozen_heap h.md.bs (o := 1)
    have p2 : W.cell? ⟨S, 2, none⟩ = some (.int .i64 s.g.hi) := cell_heap h.md.bs (o := 2) rfl
    have f2 := frozen_heap h.md.bs (o := 2)
    have p3 : W.cell? ⟨S, 3, none⟩ = some (.int .i64 s.g.size) := cell_heap h.md.bs (o := 3) rfl
    have f3 := frozen_heap h.md.bs (o := 3)
    have p4 : W.cell? ⟨S, 4, none⟩ = some (.int .i64 s.g.count) := cell_heap h.md.bs (o := 4) rfl
    have f4 := frozen_heap h.md.bs (o := 4)
    have p5 : W.cell? ⟨S, 5, none⟩ = some (.int .i64 s.g.report) := cell_heap h.md.bs (o := 5) rfl
    have f5 := frozen_heap h.md.bs (o := 5)
    obtain ⟨i1, hi1, hz0, hz1, hz2⟩ := info_parts info78
    by_cases hd : 8 ≤ s.stack.length
    · have hd' : decide ((s.stack.length : Int) = 8) = true := decide_eq_true (by omega)
      go_wp2_with fail
      refine hE _ _ 3 (by rw [hF, if_pos hd]) (by decide) rfl rfl rfl ?_ ?_
      · exact (zeroed h.br).1
      · exact (zeroed h.br).2
    · have hd' : decide ((s.stack.length : Int) = 8) = false := decide_eq_false (by omega)
      go_wp2_with (at_builtin; go_must (refine wpList_append_el (T := glM) rfl (.tmp 127) (.tmp 129) 79 rfl base 78 i1 _ 48 Try.underlying79 hi1 hz0 hz1 hz2 rfl (by decide) _ s.stack.length s.stack (by rfl) (h.md.st.alloc _) W.heap.size _ _ s.g (by rfl) (heap_at _ rfl) ⟨rfl, trivial⟩ (by simp [Value.oneCell']) (by unfold maxLen; omega) (by omega) (Nat.le_trans h.hb (by simp)) ?_); intro g cap w4 hown4 hg4 hb4 hat4 hlt4)
      have hkW : Kept W (W.alloc (.cells #[.int .i64 s.g.page, .int .i64 s.g.lo, .int .i64 s.g.hi, .int .i64 s.g.size, .int .i64 s.g.count, .int .i64 s.g.report] 78)) := (Below.refl _ _).alloc (Nat.le_refl _) _
      refine hN _ _ _ vu vf vc _ (hF.trans (if_neg hd)) (frame_end rfl rfl rfl rfl rfl rfl rfl rfl rfl rfl rfl rfl) ((h.kept hkW).stTo (v' := .slice (some ⟨g, 0, none⟩) (s.stack.length + 1) cap) hg4 (by rw [List.length_append]; exact hown4) (hat4.elim (fun e => .inr (.inl e.symm)) (fun e => .inr (.inr (by rw [e]; rfl))))) ((FrM.kept hkW h.hb).trans (FrM.below hb4))
  · have hv' : decide (cc = 26) = false := decide_eq_false hv
    go_upto_region 49 with (fail)
    refine sw_49 hcc (frame_item rfl rfl rfl rfl rfl rfl rfl rfl rfl rfl rfl rfl rfl rfl rfl rfl) h hs hw hok hN hE hP ?_ _ ?_
    · intro u hu
      rcases List.mem_cons.1 hu with rfl | hu
      · exact hv
      · exact hne u hu
    all_goals assumption
end Go.Proofs.Ytegdigfcgeoboaa
/- The switch, from region 43 on. Printed by gen_m.py. -/
namespace Go.Proofs.Ytegdigfcgeoboaa
open Go.RowKit Go.Maps
attribute [local go_sem ↓] Go.wp_at_zero Go.wp_at_succ

noncomputable def codeM43 : Code := (Try.f13.body.bind (findR 43)).getD .skip
set_option maxRecDepth 1000000 in
set_option maxHeartbeats 8000000 in
theorem sw_43 {Q : Exit → Act → World → Prop} {W : World} {base n c R M S X : Nat} {A : Option Addr} {vs vu vf vc : Value} {s : RS} {i : Int} {x : It} {a : Act} {cc : Int} (hcc : x.ty * 16 + x.tg = cc) (ha : Live a A n c R M S X vs vu s s i x cc) (h : Sit W base R M S X vs vu vf vc s x)
    (hs : s.Fine) (hw : x.wide = true) (hok : x.ok) (hN : OkN Q W base A n c R M S X s i x) (hE : OkE Q W R s x) (hP : ∀ c a d v w, Q (.panic c) (a.put d v) w → Q (.panic c) a w) (hne : ∀ v ∈ ([24, 23, 22, 21, 20, 19, 18, 17, 16] : List Int), cc ≠ v) (K : Act → World → Prop) (hK : ∀ a w', Code.wp Try.prog (restC codeM43) Q a w' → K a w') : Code.wp Try.prog (headC codeM43) (Exit.then K Q) a W := by
  obtain ⟨us, rfl⟩ := ha
  conv => arg 2; whnf
  conv at hK => enter [a, w', 1, 2]; whnf
  dsimp only
  obtain ⟨w1, w2, w3, w4, _⟩ := wide_iff hw hok
  have hMl := heap_lt h.md.bm
  have hSl := heap_lt h.md.bs
  have hXl := heap_lt h.bx
  have hRl := heap_lt h.br
  have hMS := h.md.low.2.2
  obtain ⟨l1, l2, l3⟩ := h.low
  have r0 : W.cell? ⟨R, 0, none⟩ = some (.slice none 0 0) := cell_heap h.br (o := 0) rfl
  have r1 : W.cell? ⟨R, 1, none⟩ = some (.slice none 0 0) := cell_heap h.br (o := 1) rfl
  have r2 : W.cell? ⟨R, 2, none⟩ = some (.bool false) := cell_heap h.br (o := 2) rfl
  have g0 := frozen_heap h.br (o := 0)
  have g1 := frozen_heap h.br (o := 1)
  have g2 := frozen_heap h.br (o := 2)
  by_cases hv : cc = 25
  · subst hv
    have h1 : x.ty = 1 := by omega
    have h2 : x.tg = 9 := by omega
    have hF : effS s x = (0, { s with g := { s.g with count := x.data } }) := by simp [effS, h1, h2]
    have p4 : W.cell? ⟨S, 4, none⟩ = some (.int .i64 s.g.count) := cell_heap h.md.bs (o := 4) rfl
    have f4 := frozen_heap h.md.bs (o := 4)
    go_wp2_with fail
    refine hN _ _ vs vu vf vc _ (hF) (frame_end rfl rfl rfl rfl rfl rfl rfl rfl rfl rfl rfl rfl) (h.setS 4 _ rfl rfl rfl rfl rfl rfl) (FrM.setS 4 _)
  · have hv' : decide (cc = 25) = false := decide_eq_false hv
    go_upto_region 45 with (fail)
    refine sw_45 hcc (frame_item rfl rfl rfl rfl rfl rfl rfl rfl rfl rfl rfl rfl rfl rfl rfl rfl) h hs hw hok hN hE hP ?_ _ ?_
    · intro u hu
      rcases List.mem_cons.1 hu with rfl | hu
      · exact hv
      · exact hne u hu
    all_goals assumption
end Go.Proofs.Ytegdigfcgeoboaa
/- The switch, from region 38 on. Printed by gen_m.py. -/
namespace Go.Proofs.Ytegdigfcgeoboaa
open Go.RowKit Go.Maps
attribute [local go_sem ↓] Go.wp_at_zero Go.wp_at_succ

noncomputable def codeM38 : Code := (Try.f13.body.bind (findR 38)).getD .skip
set_option maxRecDepth 1000000 in
set_option maxHeartbeats 8000000 in
theorem sw_38 {Q : Exit → Act → World → Prop} {W : World} {base n c R M S X : Nat} {A : Option Addr} {vs vu vf vc : Value} {s : RS} {i : Int} {x : It} {a : Act} {cc : Int} (hcc : x.ty * 16 + x.tg = cc) (ha : Live a A n c R M S X vs vu s s i x cc) (h : Sit W base R M S X vs vu vf vc s x)
    (hs : s.Fine) (hw : x.wide = true) (hok : x.ok) (hN : OkN Q W base A n c R M S X s i x) (hE : OkE Q W R s x) (hP : ∀ c a d v w, Q (.panic c) (a.put d v) w → Q (.panic c) a w) (hne : ∀ v ∈ ([23, 22, 21, 20, 19, 18, 17, 16] : List Int), cc ≠ v) (K : Act → World → Prop) (hK : ∀ a w', Code.wp Try.prog (restC codeM38) Q a w' → K a w') : Code.wp Try.prog (headC codeM38) (Exit.then K Q) a W := by
  obtain ⟨us, rfl⟩ := ha
  conv => arg 2; whnf
  conv at hK => enter [a, w', 1, 2]; whnf
  dsimp only
  obtain ⟨w1, w2, w3, w4, _⟩ := wide_iff hw hok
  have hMl := heap_lt h.md.bm
  have hSl := heap_lt h.md.bs
  have hXl := heap_lt h.bx
  have hRl := heap_lt h.br
  have hMS := h.md.low.2.2
  obtain ⟨l1, l2, l3⟩ := h.low
  have r0 : W.cell? ⟨R, 0, none⟩ = some (.slice none 0 0) := cell_heap h.br (o := 0) rfl
  have r1 : W.cell? ⟨R, 1, none⟩ = some (.slice none 0 0) := cell_heap h.br (o := 1) rfl
  have r2 : W.cell? ⟨R, 2, none⟩ = some (.bool false) := cell_heap h.br (o := 2) rfl
  have g0 := frozen_heap h.br (o := 0)
  have g1 := frozen_heap h.br (o := 1)
  have g2 := frozen_heap h.br (o := 2)
  by_cases hv : cc = 24
  · subst hv
    have h1 : x.ty = 1 := by omega
    have h2 : x.tg = 8 := by omega
    have hF : effS s x = if x.data < 1 ∨ 255 < x.data then (4, s) else (0, { s with g := { s.g with report := x.data }, numbered := true }) := by simp [effS, h1, h2]
    have p5 : W.cell? ⟨S, 5, none⟩ = some (.int .i64 s.g.report) := cell_heap h.md.bs (o := 5) rfl
    have f5 := frozen_heap h.md.bs (o := 5)
    have m2 : W.cell? ⟨M, 2, none⟩ = some (.bool s.numbered) := cell_heap h.md.bm (o := 2) rfl
    have n2 := frozen_heap h.md.bm (o := 2)
    obtain ⟨d0, d1, _⟩ := data_lt hw hok
    by_cases hd : x.data = 0
    · have hd' : decide (x.data = 0) = true := decide_eq_true hd
      go_wp2_with fail
      refine hE _ _ 4 (by rw [hF, if_pos (by omega)]) (by decide) rfl rfl rfl ?_ ?_
      · exact (zeroed h.br).1
      · exact (zeroed h.br).2
    · have hd' : decide (x.data = 0) = false := decide_eq_false hd
      by_cases hd2 : 255 < x.data
      · have hd2' : decide (255 < x.data) = true := decide_eq_true hd2
        go_wp2_with fail
        refine hE _ _ 4 (by rw [hF, if_pos (by omega)]) (by decide) rfl rfl rfl ?_ ?_
        · exact (zeroed h.br).1
        · exact (zeroed h.br).2
      · have hd2' : decide (255 < x.data) = false := decide_eq_false hd2
        go_wp2_with fail
        refine hN _ _ vs vu vf vc _ (hF.trans (if_neg (by omega))) (frame_end rfl rfl rfl rfl rfl rfl rfl rfl rfl rfl rfl rfl) ((h.setS 5 (.int .i64 x.data) (s' := { s with g := { s.g with report := x.data } }) rfl rfl rfl rfl rfl rfl).setM 2 _ rfl rfl rfl rfl rfl rfl) ((FrM.setS 5 _).trans (FrM.setM 2 _))
  · have hv' : decide (cc = 24) = false := decide_eq_false hv
    go_upto_region 43 with (fail)
    refine sw_43 hcc (frame_item rfl rfl rfl rfl rfl rfl rfl rfl rfl rfl rfl rfl rfl rfl rfl rfl) h hs hw hok hN hE hP ?_ _ ?_
    · intro u hu
      rcases List.mem_cons.1 hu with rfl | hu
      · exact hv
      · exact hne u hu
    all_goals assumption
end Go.Proofs.Ytegdigfcgeoboaa
/- The switch, from region 36 on. Printed by gen_m.py. -/
namespace Go.Proofs.Ytegdigfcgeoboaa
open Go.RowKit Go.Maps
attribute [local go_sem ↓] Go.wp_at_zero Go.wp_at_succ

noncomputable def codeM36 : Code := (Try.f13.body.bind (findR 36)).getD .skip
set_option maxRecDepth 1000000 in
set_option maxHeartbeats 8000000 in
theorem sw_36 {Q : Exit → Act → World → Prop} {W : World} {base n c R M S X : Nat} {A : Option Addr} {vs vu vf vc : Value} {s : RS} {i : Int} {x : It} {a : Act} {cc : Int} (hcc : x.ty * 16 + x.tg = cc) (ha : Live a A n c R M S X vs vu s s i x cc) (h : Sit W base R M S X vs vu vf vc s x)
    (hs : s.Fine) (hw : x.wide = true) (hok : x.ok) (hN : OkN Q W base A n c R M S X s i x) (hE : OkE Q W R s x) (hP : ∀ c a d v w, Q (.panic c) (a.put d v) w → Q (.panic c) a w) (hne : ∀ v ∈ ([22, 21, 20, 19, 18, 17, 16] : List Int), cc ≠ v) (K : Act → World → Prop) (hK : ∀ a w', Code.wp Try.prog (restC codeM36) Q a w' → K a w') : Code.wp Try.prog (headC codeM36) (Exit.then K Q) a W := by
  obtain ⟨us, rfl⟩ := ha
  conv => arg 2; whnf
  conv at hK => enter [a, w', 1, 2]; whnf
  dsimp only
  obtain ⟨w1, w2, w3, w4, _⟩ := wide_iff hw hok
  have hMl := heap_lt h.md.bm
  have hSl := heap_lt h.md.bs
  have hXl := heap_lt h.bx
  have hRl := heap_lt h.br
  have hMS := h.md.low.2.2
  obtain ⟨l1, l2, l3⟩ := h.low
  have r0 : W.cell? ⟨R, 0, none⟩ = some (.slice none 0 0) := cell_heap h.br (o := 0) rfl
  have r1 : W.cell? ⟨R, 1, none⟩ = some (.slice none 0 0) := cell_heap h.br (o := 1) rfl
  have r2 : W.cell? ⟨R, 2, none⟩ = some (.bool false) := cell_heap h.br (o := 2) rfl
  have g0 := frozen_heap h.br (o := 0)
  have g1 := frozen_heap h.br (o := 1)
  have g2 := frozen_heap h.br (o := 2)
  by_cases hv : cc = 23
  · subst hv
    have h1 : x.ty = 1 := by omega
    have h2 : x.tg = 7 := by omega
    have hF : effS s x = (0, { s with g := { s.g with size := x.data } }) := by simp [effS, h1, h2]
    have p3 : W.cell? ⟨S, 3, none⟩ = some (.int .i64 s.g.size) := cell_heap h.md.bs (o := 3) rfl
    have f3 := frozen_heap h.md.bs (o := 3)
    go_wp2_with fail
    refine hN _ _ vs vu vf vc _ (hF) (frame_end rfl rfl rfl rfl rfl rfl rfl rfl rfl rfl rfl rfl) (h.setS 3 _ rfl rfl rfl rfl rfl rfl) (FrM.setS 3 _)
  · have hv' : decide (cc = 23) = false := decide_eq_false hv
    go_upto_region 38 with (fail)
    refine sw_38 hcc (frame_item rfl rfl rfl rfl rfl rfl rfl rfl rfl rfl rfl rfl rfl rfl rfl rfl) h hs hw hok hN hE hP ?_ _ ?_
    · intro u hu
      rcases List.mem_cons.1 hu with rfl | hu
      · exact hv
      · exact hne u hu
    all_goals assumption
end Go.Proofs.Ytegdigfcgeoboaa
/- The switch, from region 32 on. Printed by gen_m.py. -/
namespace Go.Proofs.Ytegdigfcgeoboaa
open Go.RowKit Go.Maps
attribute [local go_sem ↓] Go.wp_at_zero Go.wp_at_succ

noncomputable def codeM30' : Code := (Try.f13.body.bind (findR 30)).getD .skip
noncomputable def codeM32 : Code := elseC (restC codeM30')
set_option maxRecDepth 1000000 in
set_option maxHeartbeats 8000000 in
theorem sw_32 {Q : Exit → Act → World → Prop} {W : World} {base n c R M S X : Nat} {A : Option Addr} {vs vu vf vc : Value} {s : RS} {i : Int} {x : It} {a : Act} {cc : Int} (hcc : x.ty * 16 + x.tg = cc) (ha : Live a A n c R M S X vs vu s s i x cc) (h : Sit W base R M S X vs vu vf vc s x)
    (hs : s.Fine) (hw : x.wide = true) (hok : x.ok) (hN : OkN Q W base A n c R M S X s i x) (hE : OkE Q W R s x) (hP : ∀ c a d v w, Q (.panic c) (a.put d v) w → Q (.panic c) a w) (hne : ∀ v ∈ ([18, 17, 16] : List Int), cc ≠ v) (K K2 : Act → World → Prop) (hK : ∀ a w', Code.wp Try.prog (restC (headC codeM32)) (Exit.then K2 Q) a w' → K a w') (hK2 : ∀ a w', Code.wp Try.prog (restC codeM32) Q a w' → K2 a w') : Code.wp Try.prog (headC (headC codeM32)) (Exit.then K (Exit.then K2 Q)) a W := by
  obtain ⟨us, rfl⟩ := ha
  conv => arg 2; whnf
  conv at hK => enter [a, w', 1, 2]; whnf
  conv at hK2 => enter [a, w', 1, 2]; whnf
  dsimp only
  obtain ⟨w1, w2, w3, w4, _⟩ := wide_iff hw hok
  have hMl := heap_lt h.md.bm
  have hSl := heap_lt h.md.bs
  have hXl := heap_lt h.bx
  have hRl := heap_lt h.br
  have hMS := h.md.low.2.2
  obtain ⟨l1, l2, l3⟩ := h.low
  have r0 : W.cell? ⟨R, 0, none⟩ = some (.slice none 0 0) := cell_heap h.br (o := 0) rfl
  have r1 : W.cell? ⟨R, 1, none⟩ = some (.slice none 0 0) := cell_heap h.br (o := 1) rfl
  have r2 : W.cell? ⟨R, 2, none⟩ = some (.bool false) := cell_heap h.br (o := 2) rfl
  have g0 := frozen_heap h.br (o := 0)
  have g1 := frozen_heap h.br (o := 1)
  have g2 := frozen_heap h.br (o := 2)
  by_cases hv : cc = 19 ∨ cc = 20 ∨ cc = 21 ∨ cc = 22
  · have h1 : x.ty = 1 := by omega
    have h2 : x.tg = 3 ∨ x.tg = 4 ∨ x.tg = 5 ∨ x.tg = 6 := by omega
    have hF : effS s x = (0, s) := by rcases h2 with h2 | h2 | h2 | h2 <;> simp [effS, h1, h2]
    clear h2
    rcases hv with rfl | rfl | rfl | rfl
    all_goals
      go_wp2_with fail
      refine hN _ _ vs vu vf vc _ (hF) (frame_end rfl rfl rfl rfl rfl rfl rfl rfl rfl rfl rfl rfl) (h) (FrM.refl)
  · have hv1 : decide (cc = 19) = false := decide_eq_false (by omega)
    have hv2 : (cc == 20) = false := beq_false_of_ne (by omega)
    have hv3 : (cc == 21) = false := beq_false_of_ne (by omega)
    have hv4 : (cc == 22) = false := beq_false_of_ne (by omega)
    go_upto_region 36 with (fail)
    refine sw_36 hcc (frame_item rfl rfl rfl rfl rfl rfl rfl rfl rfl rfl rfl rfl rfl rfl rfl rfl) h hs hw hok hN hE hP ?_ _ ?_
    · intro u hu
      have hn := hne u
      simp only [List.mem_cons, List.not_mem_nil, or_false] at hu hn
      omega
    · assumption
end Go.Proofs.Ytegdigfcgeoboaa
/- The switch, from region 30 on. Printed by gen_m.py. -/
namespace Go.Proofs.Ytegdigfcgeoboaa
open Go.RowKit Go.Maps
attribute [local go_sem ↓] Go.wp_at_zero Go.wp_at_succ

noncomputable def codeM30 : Code := (Try.f13.body.bind (findR 30)).getD .skip
set_option maxRecDepth 1000000 in
set_option maxHeartbeats 8000000 in
theorem sw_30 {Q : Exit → Act → World → Prop} {W : World} {base n c R M S X : Nat} {A : Option Addr} {vs vu vf vc : Value} {s : RS} {i : Int} {x : It} {a : Act} {cc : Int} (hcc : x.ty * 16 + x.tg = cc) (ha : Live a A n c R M S X vs vu s s i x cc) (h : Sit W base R M S X vs vu vf vc s x)
    (hs : s.Fine) (hw : x.wide = true) (hok : x.ok) (hN : OkN Q W base A n c R M S X s i x) (hE : OkE Q W R s x) (hP : ∀ c a d v w, Q (.panic c) (a.put d v) w → Q (.panic c) a w) (hne : ∀ v ∈ ([17, 16] : List Int), cc ≠ v) (K : Act → World → Prop) (hK : ∀ a w', Code.wp Try.prog (restC codeM30) Q a w' → K a w') : Code.wp Try.prog (headC codeM30) (Exit.then K Q) a W := by
  obtain ⟨us, rfl⟩ := ha
  conv => arg 2; whnf
  conv at hK => enter [a, w', 1, 2]; whnf
  dsimp only
  obtain ⟨w1, w2, w3, w4, _⟩ := wide_iff hw hok
  have hMl := heap_lt h.md.bm
  have hSl := heap_lt h.md.bs
  have hXl := heap_lt h.bx
  have hRl := heap_lt h.br
  have hMS := h.md.low.2.2
  obtain ⟨l1, l2, l3⟩ := h.low
  have r0 : W.cell? ⟨R, 0, none⟩ = some (.slice none 0 0) := cell_heap h.br (o := 0) rfl
  have r1 : W.cell? ⟨R, 1, none⟩ = some (.slice none 0 0) := cell_heap h.br (o := 1) rfl
  have r2 : W.cell? ⟨R, 2, none⟩ = some (.bool false) := cell_heap h.br (o := 2) rfl
  have g0 := frozen_heap h.br (o := 0)
  have g1 := frozen_heap h.br (o := 1)
  have g2 := frozen_heap h.br (o := 2)
  by_cases hv : cc = 18
  · subst hv
    have h1 : x.ty = 1 := by omega
    have h2 : x.tg = 2 := by omega
    have hF : effS s x = (0, { s with g := { s.g with hi := signS x } }) := by simp [effS, h1, h2]
    have p2 : W.cell? ⟨S, 2, none⟩ = some (.int .i64 s.g.hi) := cell_heap h.md.bs (o := 2) rfl
    have f2 := frozen_heap h.md.bs (o := 2)
    go_wp2_with fail
    refine hN _ _ vs vu vf vc _ (hF) (frame_end rfl rfl rfl rfl rfl rfl rfl rfl rfl rfl rfl rfl) (h.setS 2 _ rfl rfl rfl rfl rfl rfl) (FrM.setS 2 _)
  · have hv' : decide (cc = 18) = false := decide_eq_false hv
    go_upto_region 32 with (fail)
    refine sw_32 hcc (frame_item rfl rfl rfl rfl rfl rfl rfl rfl rfl rfl rfl rfl rfl rfl rfl rfl) h hs hw hok hN hE hP ?_ _ _ ?_ ?_
    · intro u hu
      rcases List.mem_cons.1 hu with rfl | hu
      · exact hv
      · exact hne u hu
    all_goals assumption
end Go.Proofs.Ytegdigfcgeoboaa
/- The switch, from region 28 on. Printed by gen_m.py. -/
namespace Go.Proofs.Ytegdigfcgeoboaa
open Go.RowKit Go.Maps
attribute [local go_sem ↓] Go.wp_at_zero Go.wp_at_succ

noncomputable def codeM28 : Code := (Try.f13.body.bind (findR 28)).getD .skip
set_option maxRecDepth 1000000 in
set_option maxHeartbeats 8000000 in
theorem sw_28 {Q : Exit → Act → World → Prop} {W : World} {base n c R M S X : Nat} {A : Option Addr} {vs vu vf vc : Value} {s : RS} {i : Int} {x : It} {a : Act} {cc : Int} (hcc : x.ty * 16 + x.tg = cc) (ha : Live a A n c R M S X vs vu s s i x cc) (h : Sit W base R M S X vs vu vf vc s x)
    (hs : s.Fine) (hw : x.wide = true) (hok : x.ok) (hN : OkN Q W base A n c R M S X s i x) (hE : OkE Q W R s x) (hP : ∀ c a d v w, Q (.panic c) (a.put d v) w → Q (.panic c) a w) (hne : ∀ v ∈ ([16] : List Int), cc ≠ v) (K : Act → World → Prop) (hK : ∀ a w', Code.wp Try.prog (restC codeM28) Q a w' → K a w') : Code.wp Try.prog (headC codeM28) (Exit.then K Q) a W := by
  obtain ⟨us, rfl⟩ := ha
  conv => arg 2; whnf
  conv at hK => enter [a, w', 1, 2]; whnf
  dsimp only
  obtain ⟨w1, w2, w3, w4, _⟩ := wide_iff hw hok
  have hMl := heap_lt h.md.bm
  have hSl := heap_lt h.md.bs
  have hXl := heap_lt h.bx
  have hRl := heap_lt h.br
  have hMS := h.md.low.2.2
  obtain ⟨l1, l2, l3⟩ := h.low
  have r0 : W.cell? ⟨R, 0, none⟩ = some (.slice none 0 0) := cell_heap h.br (o := 0) rfl
  have r1 : W.cell? ⟨R, 1, none⟩ = some (.slice none 0 0) := cell_heap h.br (o := 1) rfl
  have r2 : W.cell? ⟨R, 2, none⟩ = some (.bool false) := cell_heap h.br (o := 2) rfl
  have g0 := frozen_heap h.br (o := 0)
  have g1 := frozen_heap h.br (o := 1)
  have g2 := frozen_heap h.br (o := 2)
  by_cases hv : cc = 17
  · subst hv
    have h1 : x.ty = 1 := by omega
    have h2 : x.tg = 1 := by omega
    have hF : effS s x = (0, { s with g := { s.g with lo := signS x } }) := by simp [effS, h1, h2]
    have p1 : W.cell? ⟨S, 1, none⟩ = some (.int .i64 s.g.lo) := cell_heap h.md.bs (o := 1) rfl
    have f1 := frozen_heap h.md.bs (o := 1)
    go_wp2_with fail
    refine hN _ _ vs vu vf vc _ (hF) (frame_end rfl rfl rfl rfl rfl rfl rfl rfl rfl rfl rfl rfl) (h.setS 1 _ rfl rfl rfl rfl rfl rfl) (FrM.setS 1 _)
  · have hv' : decide (cc = 17) = false := decide_eq_false hv
    go_upto_region 30 with (fail)
    refine sw_30 hcc (frame_item rfl rfl rfl rfl rfl rfl rfl rfl rfl rfl rfl rfl rfl rfl rfl rfl) h hs hw hok hN hE hP ?_ _ ?_
    · intro u hu
      rcases List.mem_cons.1 hu with rfl | hu
      · exact hv
      · exact hne u hu
    all_goals assumption
end Go.Proofs.Ytegdigfcgeoboaa
/- The switch, from region 24 on. Printed by gen_m.py. -/
namespace Go.Proofs.Ytegdigfcgeoboaa
open Go.RowKit Go.Maps
attribute [local go_sem ↓] Go.wp_at_zero Go.wp_at_succ

noncomputable def codeM24 : Code := (Try.f13.body.bind (findR 24)).getD .skip
set_option maxRecDepth 1000000 in
set_option maxHeartbeats 8000000 in
theorem sw_24 {Q : Exit → Act → World → Prop} {W : World} {base n c R M S X : Nat} {A : Option Addr} {vs vu vf vc : Value} {s : RS} {i : Int} {x : It} {a : Act} {cc : Int} (hcc : x.ty * 16 + x.tg = cc) (ha : Live a A n c R M S X vs vu s s i x cc) (h : Sit W base R M S X vs vu vf vc s x)
    (hs : s.Fine) (hw : x.wide = true) (hok : x.ok) (hN : OkN Q W base A n c R M S X s i x) (hE : OkE Q W R s x) (hP : ∀ c a d v w, Q (.panic c) (a.put d v) w → Q (.panic c) a w) (hne : ∀ v ∈ ([] : List Int), cc ≠ v) (K : Act → World → Prop) (hK : ∀ a w', Code.wp Try.prog (restC codeM24) Q a w' → K a w') : Code.wp Try.prog (headC codeM24) (Exit.then K Q) a W := by
  obtain ⟨us, rfl⟩ := ha
  conv => arg 2; whnf
  conv at hK => enter [a, w', 1, 2]; whnf
  dsimp only
  obtain ⟨w1, w2, w3, w4, _⟩ := wide_iff hw hok
  have hMl := heap_lt h.md.bm
  have hSl := heap_lt h.md.bs
  have hXl := heap_lt h.bx
  have hRl := heap_lt h.br
  have hMS := h.md.low.2.2
  obtain ⟨l1, l2, l3⟩ := h.low
  have r0 : W.cell? ⟨R, 0, none⟩ = some (.slice none 0 0) := cell_heap h.br (o := 0) rfl
  have r1 : W.cell? ⟨R, 1, none⟩ = some (.slice none 0 0) := cell_heap h.br (o := 1) rfl
  have r2 : W.cell? ⟨R, 2, none⟩ = some (.bool false) := cell_heap h.br (o := 2) rfl
  have g0 := frozen_heap h.br (o := 0)
  have g1 := frozen_heap h.br (o := 1)
  have g2 := frozen_heap h.br (o := 2)
  by_cases hv : cc = 16
  · subst hv
    have h1 : x.ty = 1 := by omega
    have h2 : x.tg = 0 := by omega
    have hF : effS s x = if 65535 < x.data then (4, s) else (0, { s with g := { s.g with page := x.data } }) := by simp [effS, h1, h2]
    have p0 : W.cell? ⟨S, 0, none⟩ = some (.int .i64 s.g.page) := cell_heap h.md.bs (o := 0) rfl
    have f0 := frozen_heap h.md.bs (o := 0)
    by_cases hd : 65535 < x.data
    · go_wp2_with fail
      refine hE _ _ 4 (by rw [hF, if_pos (by omega)]) (by decide) rfl rfl rfl ?_ ?_
      · exact (zeroed h.br).1
      · exact (zeroed h.br).2
    · go_wp2_with fail
      refine hN _ _ vs vu vf vc _ (hF.trans (if_neg (by omega))) (frame_end rfl rfl rfl rfl rfl rfl rfl rfl rfl rfl rfl rfl) (h.setS 0 _ rfl rfl rfl rfl rfl rfl) (FrM.setS 0 _)
  · have hv' : decide (cc = 16) = false := decide_eq_false hv
    go_upto_region 28 with (fail)
    refine sw_28 hcc (frame_item rfl rfl rfl rfl rfl rfl rfl rfl rfl rfl rfl rfl rfl rfl rfl rfl) h hs hw hok hN hE hP ?_ _ ?_
    · intro u hu
      rcases List.mem_cons.1 hu with rfl | hu
      · exact hv
      · exact hne u hu
    all_goals assumption
end Go.Proofs.Ytegdigfcgeoboaa
