/- The switch, its end. -/
import Derived.Test.YtegdigfcgeoboaaChecked
import Derived.Deep.RegionHeld3
import Derived.Deep.DrawnRows
import Derived.Deep.DeepCutAuto
import Derived.Deep.LoopGhost
import Derived.Outline
import Derived.Handy
import Derived.OwnWalk
import Derived.Test.YtegdigfcgeoboaaN2
import Derived.Test.YtegdigfcgeoboaaN19
import Derived.Test.YtegdigfcgeoboaaN21
set_option linter.unusedVariables false
set_option linter.unusedSimpArgs false
set_option linter.unusedSectionVars false
/- The switch, from region 82 on. Printed by gen_m.py. -/
namespace Go.Proofs.Ytegdigfcgeoboaa
open Go.RowKit Go.Maps
attribute [local go_sem ↓] Go.wp_at_zero Go.wp_at_succ

noncomputable def codeM78' : Code := (Try.f13.body.bind (findR 78)).getD .skip
noncomputable def codeM82 : Code := elseC (restC codeM78')
set_option maxRecDepth 1000000 in
set_option maxHeartbeats 8000000 in
theorem sw_82 {Q : Exit → Act → World → Prop} {W : World} {base n c R M S X : Nat} {A : Option Addr} {vs vu vf vc : Value} {s : RS} {i : Int} {x : It} {a : Act} {cc : Int} (hcc : x.ty * 16 + x.tg = cc) (ha : Live a A n c R M S X vs vu s s i x cc) (h : Sit W base R M S X vs vu vf vc s x)
    (hs : s.Fine) (hw : x.wide = true) (hok : x.ok) (hN : OkN Q W base A n c R M S X s i x) (hE : OkE Q W R s x) (hP : ∀ c a d v w, Q (.panic c) (a.put d v) w → Q (.panic c) a w) (hne : ∀ v ∈ ([12, 10, 34, 33, 32, 27, 26, 25, 24, 23, 22, 21, 20, 19, 18, 17, 16] : List Int), cc ≠ v) (K K2 : Act → World → Prop) (hK : ∀ a w', Code.wp Try.prog (restC (headC codeM82)) (Exit.then K2 Q) a w' → K a w') (hK2 : ∀ a w', Code.wp Try.prog (restC codeM82) Q a w' → K2 a w') : Code.wp Try.prog (headC (headC codeM82)) (Exit.then K (Exit.then K2 Q)) a W := by
  obtain ⟨us, rfl⟩ := ha
  conv => arg 2; whnf
  conv at hK => enter [a, w', 1, 2]; whnf
  conv at hK2 => enter [a, w', 1, 2]; whnf
  dsimp only
  obtain ⟨w1, w2, w3, w4, _⟩ := wide_iff hw hok
  have hMl := heap_lt h.md.bm
  have hSl := heap_lt h.md.bs
  have hXl := heap_lt h.bx
  have hRl := heap_lt h.br
  have hMS := h.md.low.2.2
  obtain ⟨l1, l2, l3⟩ := h.low
  have r0 : W.cell? ⟨R, 0, none⟩ = some (.slice none 0 0) := cell_heap h.br (o := 0) rfl
  have r1 : W.cell? ⟨R, 1, none⟩ = some (.slice none 0 0) := cell_heap h.br (o := 1) rfl
  have r2 : W.cell? ⟨R, 2, none⟩ = some (.bool false) := cell_heap h.br (o := 2) rfl
  have g0 := frozen_heap h.br (o := 0)
  have g1 := frozen_heap h.br (o := 1)
  have g2 := frozen_heap h.br (o := 2)
  by_cases hv : cc = 8 ∨ cc = 9 ∨ cc = 11
  · have h1 : x.ty = 0 := by omega
    obtain ⟨k, hkf⟩ : ∃ k, effS s x = fieldS s k x := by
      rcases hv with hv | hv | hv
      · exact ⟨1, by simp [effS, h1, show x.tg = 8 by omega]⟩
      · exact ⟨2, by simp [effS, h1, show x.tg = 9 by omega]⟩
      · exact ⟨3, by simp [effS, h1, show x.tg = 11 by omega]⟩
    by_cases hd : s.opn < 0
    · have hF : effS s x = (4, s) := by rw [hkf]; unfold fieldS; rw [if_pos hd]
      have hd' : decide (s.opn < 0) = true := decide_eq_true hd
      clear hkf
      rcases hv with rfl | rfl | rfl
      all_goals
        go_wp2_with fail
        refine hE _ _ 4 (by rw [hF]) (by decide) rfl rfl rfl ?_ ?_
        · exact (zeroed h.br).1
        · exact (zeroed h.br).2
    · have hd' : decide (s.opn < 0) = false := decide_eq_false hd
      clear hkf
      rcases hv with hv | hv | hv
      · have hkf : effS s x = fieldS s 1 x := by simp [effS, h1, show x.tg = 8 by omega]
        have htg : x.tg = 8 := by omega
        subst hv
        have Htg := hide htg
        have Hkf := hide hkf
        have Hd := hide hd
        clear htg hkf hd
        go_upto_region 87 with (fail)
        refine fld_87 1 (.inl ⟨Htg.out, rfl⟩) (frame_item rfl rfl rfl rfl rfl rfl rfl rfl rfl rfl rfl rfl rfl rfl rfl rfl) h hs hw hok Hkf.out Hd.out ?_ (fun a' W' E h1 h2 h3 h4 h5 h6 h7 => hE a' W' E h1 h2 h3 h4 h5 h6 h7) (fun c a d v w h => hP c a d v w h) _ ?_
        · intro a' W' vs' vu' vf' vc' s' hF hL hS hfr
          obtain ⟨us', rfl⟩ := hL
          dsimp only
          go_wp2_with fail
          exact hN _ _ vs' vu' vf' vc' s' hF (frame_end rfl rfl rfl rfl rfl rfl rfl rfl rfl rfl rfl rfl) hS hfr
        · assumption
      · have hkf : effS s x = fieldS s 2 x := by simp [effS, h1, show x.tg = 9 by omega]
        have htg : x.tg = 9 := by omega
        subst hv
        have Htg := hide htg
        have Hkf := hide hkf
        have Hd := hide hd
        clear htg hkf hd
        go_upto_region 87 with (fail)
        refine fld_87 2 (.inr (.inl ⟨Htg.out, rfl⟩)) (frame_item rfl rfl rfl rfl rfl rfl rfl rfl rfl rfl rfl rfl rfl rfl rfl rfl) h hs hw hok Hkf.out Hd.out ?_ (fun a' W' E h1 h2 h3 h4 h5 h6 h7 => hE a' W' E h1 h2 h3 h4 h5 h6 h7) (fun c a d v w h => hP c a d v w h) _ ?_
        · intro a' W' vs' vu' vf' vc' s' hF hL hS hfr
          obtain ⟨us', rfl⟩ := hL
          dsimp only
          go_wp2_with fail
          exact hN _ _ vs' vu' vf' vc' s' hF (frame_end rfl rfl rfl rfl rfl rfl rfl rfl rfl rfl rfl rfl) hS hfr
        · assumption
      · have hkf : effS s x = fieldS s 3 x := by simp [effS, h1, show x.tg = 11 by omega]
        have htg : x.tg = 11 := by omega
        subst hv
        have Htg := hide htg
        have Hkf := hide hkf
        have Hd := hide hd
        clear htg hkf hd
        go_upto_region 87 with (fail)
        refine fld_87 3 (.inr (.inr ⟨Htg.out, rfl⟩)) (frame_item rfl rfl rfl rfl rfl rfl rfl rfl rfl rfl rfl rfl rfl rfl rfl rfl) h hs hw hok Hkf.out Hd.out ?_ (fun a' W' E h1 h2 h3 h4 h5 h6 h7 => hE a' W' E h1 h2 h3 h4 h5 h6 h7) (fun c a d v w h => hP c a d v w h) _ ?_
        · intro a' W' vs' vu' vf' vc' s' hF hL hS hfr
          obtain ⟨us', rfl⟩ := hL
          dsimp only
          go_wp2_with fail
          exact hN _ _ vs' vu' vf' vc' s' hF (frame_end rfl rfl rfl rfl rfl rfl rfl rfl rfl rfl rfl rfl) hS hfr
        · assumption
  · have hF : effS s x = (4, s) := by
      have t1 : x.ty = 0 ∨ x.ty = 1 ∨ x.ty = 2 := by omega
      have hn : ∀ v ∈ ([12, 10, 34, 33, 32, 27, 26, 25, 24, 23, 22, 21, 20, 19, 18, 17, 16] : List Int), cc ≠ v := hne
      simp only [List.mem_cons, List.not_mem_nil, or_false, forall_eq_or_imp, forall_eq] at hn
      unfold effS
      rcases t1 with t | t | t <;> rw [t] at hcc ⊢
      · rw [if_pos rfl, if_neg (by omega), if_neg (by omega), if_neg (by omega), if_neg (by omega), if_neg (by omega)]
      · rw [if_neg (by decide), if_pos rfl, if_neg (by omega), if_neg (by omega), if_neg (by omega), if_neg (by omega), if_neg (by omega), if_neg (by omega), if_neg (by omega), if_neg (by omega), if_neg (by omega)]
      · rw [if_neg (by decide), if_neg (by decide), if_pos rfl, if_neg (by omega), if_neg (by omega), if_neg (by omega)]
    have hv1 : (cc == 8) = false := beq_false_of_ne (by omega)
    have hv2 : (cc == 9) = false := beq_false_of_ne (by omega)
    have hv3 : (cc == 11) = false := beq_false_of_ne (by omega)
    go_wp2_with fail
    refine hE _ _ 4 (by rw [hF]) (by decide) rfl rfl rfl ?_ ?_
    · exact (zeroed h.br).1
    · exact (zeroed h.br).2
end Go.Proofs.Ytegdigfcgeoboaa
/- The switch, from region 78 on. Printed by gen_m.py. -/
namespace Go.Proofs.Ytegdigfcgeoboaa
open Go.RowKit Go.Maps
attribute [local go_sem ↓] Go.wp_at_zero Go.wp_at_succ

noncomputable def codeM78 : Code := (Try.f13.body.bind (findR 78)).getD .skip
set_option maxRecDepth 1000000 in
set_option maxHeartbeats 8000000 in
theorem sw_78 {Q : Exit → Act → World → Prop} {W : World} {base n c R M S X : Nat} {A : Option Addr} {vs vu vf vc : Value} {s : RS} {i : Int} {x : It} {a : Act} {cc : Int} (hcc : x.ty * 16 + x.tg = cc) (ha : Live a A n c R M S X vs vu s s i x cc) (h : Sit W base R M S X vs vu vf vc s x)
    (hs : s.Fine) (hw : x.wide = true) (hok : x.ok) (hN : OkN Q W base A n c R M S X s i x) (hE : OkE Q W R s x) (hP : ∀ c a d v w, Q (.panic c) (a.put d v) w → Q (.panic c) a w) (hne : ∀ v ∈ ([10, 34, 33, 32, 27, 26, 25, 24, 23, 22, 21, 20, 19, 18, 17, 16] : List Int), cc ≠ v) (K : Act → World → Prop) (hK : ∀ a w', Code.wp Try.prog (restC codeM78) Q a w' → K a w') : Code.wp Try.prog (headC codeM78) (Exit.then K Q) a W := by
  obtain ⟨us, rfl⟩ := ha
  conv => arg 2; whnf
  conv at hK => enter [a, w', 1, 2]; whnf
  dsimp only
  obtain ⟨w1, w2, w3, w4, _⟩ := wide_iff hw hok
  have hMl := heap_lt h.md.bm
  have hSl := heap_lt h.md.bs
  have hXl := heap_lt h.bx
  have hRl := heap_lt h.br
  have hMS := h.md.low.2.2
  obtain ⟨l1, l2, l3⟩ := h.low
  have r0 : W.cell? ⟨R, 0, none⟩ = some (.slice none 0 0) := cell_heap h.br (o := 0) rfl
  have r1 : W.cell? ⟨R, 1, none⟩ = some (.slice none 0 0) := cell_heap h.br (o := 1) rfl
  have r2 : W.cell? ⟨R, 2, none⟩ = some (.bool false) := cell_heap h.br (o := 2) rfl
  have g0 := frozen_heap h.br (o := 0)
  have g1 := frozen_heap h.br (o := 1)
  have g2 := frozen_heap h.br (o := 2)
  by_cases hv : cc = 12
  · subst hv
    have h1 : x.ty = 0 := by omega
    have h2 : x.tg = 12 := by omega
    have hE' : effS s x = if s.opn < 0 then (4, s) else (0, { s with opn := ((s.colls[s.opn.toNat]?).map Co.parent).getD (-1) }) := by simp [effS, h1, h2]
    obtain ⟨A8, c8, rfl, hC1, hC2⟩ := h.md.cs.isSlice
    have m1 : W.cell? ⟨M, 1, none⟩ = some (.slice A8 s.colls.length c8) := cell_heap h.md.bm (o := 1) rfl
    by_cases hd : s.opn < 0
    · have hF : effS s x = (4, s) := by rw [hE', if_pos hd]
      have hd' : decide (s.opn < 0) = true := decide_eq_true hd
      go_wp2_with fail
      refine hE _ _ 4 (by rw [hF]) (by decide) rfl rfl rfl ?_ ?_
      · exact (zeroed h.br).1
      · exact (zeroed h.br).2
    · obtain ⟨k, hk⟩ : ∃ k : Nat, s.opn = (k : Int) := ⟨s.opn.toNat, by omega⟩
      have hkl : k < s.colls.length := by have := hs.opn.2; omega
      obtain ⟨y, b, off, cs, hy, rfl, hbb, ⟨rfl, _⟩, hcs⟩ := h.md.cs.sl.at hkl
      have hF : effS s x = (0, { s with opn := y.parent }) := by
        rw [hE', if_neg hd, hk, Int.toNat_natCast, hy]; rfl
      have y2 : W.cell? ⟨b, off + k * 3 + 2, none⟩ = some (.int .i64 y.parent) := hcs 2 _ rfl
      have hbl : b < W.heap.size := hbb
      clear hcs
      rw [hk]
      go_wp2_with fail
      refine hN _ _ vs vu vf _ _ (hF) (frame_end rfl rfl rfl rfl rfl rfl rfl rfl rfl rfl rfl rfl) (h.same rfl rfl rfl rfl rfl rfl) (FrM.refl)
  · have hv' : decide (cc = 12) = false := decide_eq_false hv
    go_upto_region 82 with (fail)
    refine sw_82 hcc (frame_item rfl rfl rfl rfl rfl rfl rfl rfl rfl rfl rfl rfl rfl rfl rfl rfl) h hs hw hok hN hE hP ?_ _ _ ?_ ?_
    · intro u hu
      rcases List.mem_cons.1 hu with rfl | hu
      · exact hv
      · exact hne u hu
    all_goals assumption
end Go.Proofs.Ytegdigfcgeoboaa
/- The switch, from region 70 on. Printed by gen_m.py. -/
namespace Go.Proofs.Ytegdigfcgeoboaa
open Go.RowKit Go.Maps
attribute [local go_sem ↓] Go.wp_at_zero Go.wp_at_succ

noncomputable def codeM70 : Code := (Try.f13.body.bind (findR 70)).getD .skip
set_option maxRecDepth 1000000 in
set_option maxHeartbeats 8000000 in
theorem sw_70 {Q : Exit → Act → World → Prop} {W : World} {base n c R M S X : Nat} {A : Option Addr} {vs vu vf vc : Value} {s : RS} {i : Int} {x : It} {a : Act} {cc : Int} (hcc : x.ty * 16 + x.tg = cc) (ha : Live a A n c R M S X vs vu s s i x cc) (h : Sit W base R M S X vs vu vf vc s x)
    (hs : s.Fine) (hw : x.wide = true) (hok : x.ok) (hN : OkN Q W base A n c R M S X s i x) (hE : OkE Q W R s x) (hP : ∀ c a d v w, Q (.panic c) (a.put d v) w → Q (.panic c) a w) (hne : ∀ v ∈ ([34, 33, 32, 27, 26, 25, 24, 23, 22, 21, 20, 19, 18, 17, 16] : List Int), cc ≠ v) (K : Act → World → Prop) (hK : ∀ a w', Code.wp Try.prog (restC codeM70) Q a w' → K a w') : Code.wp Try.prog (headC codeM70) (Exit.then K Q) a W := by
  obtain ⟨us, rfl⟩ := ha
  conv => arg 2; whnf
  conv at hK => enter [a, w', 1, 2]; whnf
  dsimp only
  obtain ⟨w1, w2, w3, w4, _⟩ := wide_iff hw hok
  have hMl := heap_lt h.md.bm
  have hSl := heap_lt h.md.bs
  have hXl := heap_lt h.bx
  have hRl := heap_lt h.br
  have hMS := h.md.low.2.2
  obtain ⟨l1, l2, l3⟩ := h.low
  have r0 : W.cell? ⟨R, 0, none⟩ = some (.slice none 0 0) := cell_heap h.br (o := 0) rfl
  have r1 : W.cell? ⟨R, 1, none⟩ = some (.slice none 0 0) := cell_heap h.br (o := 1) rfl
  have r2 : W.cell? ⟨R, 2, none⟩ = some (.bool false) := cell_heap h.br (o := 2) rfl
  have g0 := frozen_heap h.br (o := 0)
  have g1 := frozen_heap h.br (o := 1)
  have g2 := frozen_heap h.br (o := 2)
  by_cases hv : cc = 10
  · subst hv
    have h1 : x.ty = 0 := by omega
    have h2 : x.tg = 10 := by omega
    have hE' : effS s x = if 64 ≤ s.colls.length then (3, s) else (0, { s with opn := s.colls.length, colls := s.colls ++ [⟨x.data % 256, s.usages.headD 0, s.opn⟩] }) := by simp [effS, h1, h2]
    have hcl := hs.colls.1
    have hul := hs.usages.1
    obtain ⟨d0, d1, _⟩ := data_lt hw hok
    obtain ⟨A8, c8, rfl, hC1, hC2⟩ := h.md.cs.isSlice
    obtain ⟨A7, c7, rfl, hB1, hB2⟩ := h.md.us.isSlice
    obtain ⟨i1, hi1, hz0, hz1, hz2⟩ := info_parts info68
    have m1 : W.cell? ⟨M, 1, none⟩ = some (.slice A8 s.colls.length c8) := cell_heap h.md.bm (o := 1) rfl
    by_cases hd : 64 ≤ s.colls.length
    · have hF : effS s x = (3, s) := by rw [hE', if_pos hd]
      have hd' : decide ((s.colls.length : Int) = 64) = true := decide_eq_true (by omega)
      have hd2 : ((s.colls.length : Int) == 64) = true := by rw [beq_iff_eq]; omega
      go_wp2_with fail
      refine hE _ _ 3 (by rw [hF]) (by decide) rfl rfl rfl ?_ ?_
      · exact (zeroed h.br).1
      · exact (zeroed h.br).2
    · have hd' : decide ((s.colls.length : Int) = 64) = false := decide_eq_false (by omega)
      have hd2 : ((s.colls.length : Int) == 64) = false := beq_false_of_ne (by omega)
      have hwr : x.data.tmod 256 = x.data % 256 := Int.tmod_eq_emod_of_nonneg d0
      have hwu : IntKind.u8.wrap (x.data % 256) = x.data % 256 := by rw [IntKind.wrap_u8]; omega
      have hwi : IntKind.i64.wrap (x.data % 256) = x.data % 256 := by rw [IntKind.wrap_i64]; omega
      by_cases hu0 : s.usages.length = 0
      · have hF : effS s x = (0, { s with opn := s.colls.length, colls := s.colls ++ [⟨x.data % 256, 0, s.opn⟩] }) := by
          rw [hE', if_neg hd, List.eq_nil_of_length_eq_zero hu0]; rfl
        rw [hu0] at h
        go_upto_region 76 with (fail)
        refine wp_at (fun W2 => Kept W W2 ∧ W2.heap[W.heap.size]? = some (.cells #[.int .u8 (x.data % 256), .int .u32 0, .int .i64 s.opn] 68 (0, 0))) ⟨by go_grown, heap_at _ rfl⟩ (fun W2 hW2 => ?_)
        obtain ⟨hk2, hc2⟩ := hW2
        have h2' := h.kept hk2
        have hMl2 := heap_lt h2'.md.bm
        have hcl2 := heap_lt hc2
        have hm1 : W2.cell? ⟨M, 1, none⟩ = some (.slice A8 s.colls.length c8) := cell_heap h2'.md.bm (o := 1) rfl
        have z0 : W2.cell? ⟨W.heap.size, 0, none⟩ = some (.int .u8 (x.data % 256)) := cell_heap hc2 (o := 0) rfl
        have z1 : W2.cell? ⟨W.heap.size, 1, none⟩ = some (.int .u32 0) := cell_heap hc2 (o := 1) rfl
        have z2 : W2.cell? ⟨W.heap.size, 2, none⟩ = some (.int .i64 s.opn) := cell_heap hc2 (o := 2) rfl
        clear hc2
        go_wp2_with (at_builtin; go_must (refine wpList_append_el (T := coT) rfl (.tmp 222) (.tmp 224) 38 rfl base 68 i1 _ 16 Try.underlying38 hi1 hz0 hz1 hz2 rfl (by decide) _ s.colls.length s.colls (by rfl) (h2'.md.cs.alloc _) W2.heap.size _ _ ⟨x.data % 256, 0, s.opn⟩ (by rfl) (heap_at _ rfl) ⟨rfl, trivial⟩ (by simp [Value.oneCell']) (by unfold maxLen; omega) (by omega) (Nat.le_trans h2'.hb (by simp)) ?_); intro g cap w4 hown4 hg4 hb4 hat4 hlt4; have bm4 := heap_grown hg4 (heap_past h2'.md.bm) (fun e => h2'.md.cs.not_at h2'.md.low.1 e.symm); have mm1 := cell_heap bm4 (o := 1) rfl; have mf1 := frozen_heap bm4 (o := 1); have ml4 := heap_lt bm4)
        have hkW : Kept W2 (W2.alloc (.cells #[.int .u8 (x.data % 256), .int .u32 0, .int .i64 s.opn] 68)) := (Below.refl _ _).alloc (Nat.le_refl _) _
        have h9 := ((h2'.kept hkW).csTo (v' := .slice (some ⟨g, 0, none⟩) (s.colls.length + 1) cap) hg4 (by rw [List.length_append]; exact hown4) (hat4.elim (fun e => .inr (.inl e.symm)) (fun e => .inr (.inr (by rw [e]; rfl))))).same (s' := { s with opn := s.colls.length, colls := s.colls ++ [⟨x.data % 256, 0, s.opn⟩] }) rfl rfl rfl rfl rfl rfl
        refine hN _ _ vs _ vf _ _ (hF) (frame_end rfl rfl rfl rfl rfl rfl rfl rfl rfl rfl rfl rfl) (h9) ((((FrM.kept hk2 h.hb).trans (FrM.kept hkW h2'.hb)).trans (FrM.below hb4)).trans (FrM.setM 1 _))
      · obtain ⟨u0, b, off, cs, hy, rfl, hbb, ⟨rfl, _⟩, hcs⟩ := h.md.us.sl.at (show 0 < s.usages.length by omega)
        have hhd : s.usages.headD 0 = u0 := by
          cases hl : s.usages with
          | nil => rw [hl] at hu0; exact absurd rfl hu0
          | cons a l => rw [hl] at hy; injection hy
        have hF : effS s x = (0, { s with opn := s.colls.length, colls := s.colls ++ [⟨x.data % 256, u0, s.opn⟩] }) := by
          rw [hE', if_neg hd, hhd]
        have hu1 : decide (0 < (s.usages.length : Int)) = true := decide_eq_true (by omega)
        have hu2 : 0 < (s.usages.length : Int) := by omega
        have q0 : W.cell? ⟨b, off, none⟩ = some (.int .u32 u0) := by simpa using hcs 0 _ rfl
        have hbl : b < W.heap.size := hbb
        clear hcs hy hhd
        go_upto_region 76 with (fail)
        refine wp_at (fun W2 => Kept W W2 ∧ W2.heap[W.heap.size]? = some (.cells #[.int .u8 (x.data % 256), .int .u32 u0, .int .i64 s.opn] 68 (0, 0))) ⟨by go_grown, heap_at _ rfl⟩ (fun W2 hW2 => ?_)
        obtain ⟨hk2, hc2⟩ := hW2
        have h2' := h.kept hk2
        have hMl2 := heap_lt h2'.md.bm
        have hcl2 := heap_lt hc2
        have hm1 : W2.cell? ⟨M, 1, none⟩ = some (.slice A8 s.colls.length c8) := cell_heap h2'.md.bm (o := 1) rfl
        have z0 : W2.cell? ⟨W.heap.size, 0, none⟩ = some (.int .u8 (x.data % 256)) := cell_heap hc2 (o := 0) rfl
        have z1 : W2.cell? ⟨W.heap.size, 1, none⟩ = some (.int .u32 u0) := cell_heap hc2 (o := 1) rfl
        have z2 : W2.cell? ⟨W.heap.size, 2, none⟩ = some (.int .i64 s.opn) := cell_heap hc2 (o := 2) rfl
        clear hc2
        go_wp2_with (at_builtin; go_must (refine wpList_append_el (T := coT) rfl (.tmp 222) (.tmp 224) 38 rfl base 68 i1 _ 16 Try.underlying38 hi1 hz0 hz1 hz2 rfl (by decide) _ s.colls.length s.colls (by rfl) (h2'.md.cs.alloc _) W2.heap.size _ _ ⟨x.data % 256, u0, s.opn⟩ (by rfl) (heap_at _ rfl) ⟨rfl, trivial⟩ (by simp [Value.oneCell']) (by unfold maxLen; omega) (by omega) (Nat.le_trans h2'.hb (by simp)) ?_); intro g cap w4 hown4 hg4 hb4 hat4 hlt4; have bm4 := heap_grown hg4 (heap_past h2'.md.bm) (fun e => h2'.md.cs.not_at h2'.md.low.1 e.symm); have mm1 := cell_heap bm4 (o := 1) rfl; have mf1 := frozen_heap bm4 (o := 1); have ml4 := heap_lt bm4)
        have hkW : Kept W2 (W2.alloc (.cells #[.int .u8 (x.data % 256), .int .u32 u0, .int .i64 s.opn] 68)) := (Below.refl _ _).alloc (Nat.le_refl _) _
        have h9 := ((h2'.kept hkW).csTo (v' := .slice (some ⟨g, 0, none⟩) (s.colls.length + 1) cap) hg4 (by rw [List.length_append]; exact hown4) (hat4.elim (fun e => .inr (.inl e.symm)) (fun e => .inr (.inr (by rw [e]; rfl))))).same (s' := { s with opn := s.colls.length, colls := s.colls ++ [⟨x.data % 256, u0, s.opn⟩] }) rfl rfl rfl rfl rfl rfl
        refine hN _ _ vs _ vf _ _ (hF) (frame_end rfl rfl rfl rfl rfl rfl rfl rfl rfl rfl rfl rfl) (h9) ((((FrM.kept hk2 h.hb).trans (FrM.kept hkW h2'.hb)).trans (FrM.below hb4)).trans (FrM.setM 1 _))
  · have hv' : decide (cc = 10) = false := decide_eq_false hv
    go_upto_region 78 with (fail)
    refine sw_78 hcc (frame_item rfl rfl rfl rfl rfl rfl rfl rfl rfl rfl rfl rfl rfl rfl rfl rfl) h hs hw hok hN hE hP ?_ _ ?_
    · intro u hu
      rcases List.mem_cons.1 hu with rfl | hu
      · exact hv
      · exact hne u hu
    all_goals assumption
end Go.Proofs.Ytegdigfcgeoboaa
/- The switch, from region 60 on. Printed by gen_m.py. -/
namespace Go.Proofs.Ytegdigfcgeoboaa
open Go.RowKit Go.Maps
attribute [local go_sem ↓] Go.wp_at_zero Go.wp_at_succ

def LoopU (W : World) (A : Option Addr) (n c : Nat) (R M S X base : Nat) (vs vf vc : Value) (s : RS) (i : Int) (x : It) (u : Int) (N k : Nat) (a : Act) (wr : World) : Prop :=
  ∃ (us : Nat → Value) (vu : Value) (m : Nat) (v : Int), a = ⟨#[.slice A n c, us 1, .pointer (some ⟨R, 0, none⟩), us 3, .pointer (some ⟨M, 0, none⟩), .pointer (some ⟨S, 0, none⟩), vs, vu, .int .i64 s.kept, .int .i64 s.opn, .int .i64 i, .pointer (some ⟨X, 0, none⟩), us 12, us 13, .int .i64 u, .int .i64 v, us 16, us 17, us 18, us 19, us 20, us 21, us 22, us 23, us 24, us 25, us 26, us 27, us 28, us 29, us 30, us 31, us 32, us 33, us 34, us 35, us 36, us 37, us 38, us 39, us 40, us 41, us 42, us 43, us 44, us 45, us 46, us 47, us 48, us 49, us 50, us 51, us 52, us 53, us 54, us 55, us 56, us 57, us 58, us 59, us 60, us 61, us 62, us 63, us 64, us 65, us 66, us 67, us 68, us 69, us 70, us 71, us 72, us 73, us 74, us 75, us 76, us 77, us 78, us 79, us 80, us 81, us 82, us 83, us 84, us 85, us 86, us 87, us 88, us 89, us 90, us 91, us 92, us 93, us 94, us 95, us 96, us 97, us 98, us 99, us 100, us 101, us 102, us 103, us 104, us 105, us 106, us 107, us 108, us 109, us 110, us 111, us 112, us 113, us 114, us 115, us 116, us 117, us 118, us 119, us 120, us 121, us 122, us 123, us 124, us 125, us 126, us 127, us 128, us 129, us 130, us 131, us 132, us 133, us 134, us 135, us 136, us 137, us 138, us 139, us 140, us 141, us 142, us 143, us 144, us 145, us 146, us 147, us 148, us 149, us 150, us 151, us 152, us 153, us 154, us 155, us 156, us 157, us 158, us 159, us 160, us 161, us 162, us 163, us 164, us 165, us 166, us 167, us 168, us 169, us 170, us 171, us 172, us 173, us 174, us 175, us 176, us 177, us 178, us 179, us 180, us 181, us 182, us 183, us 184, us 185, us 186, us 187, us 188, us 189, us 190, us 191, us 192, us 193, us 194, us 195, us 196, us 197, us 198, us 199, us 200, us 201, us 202, us 203, us 204, us 205, us 206, us 207, us 208, us 209, us 210, us 211, us 212, us 213, us 214, us 215, us 216, us 217, us 218, us 219, us 220, us 221, us 222, us 223, us 224, us 225, us 226, us 227, us 228, us 229, us 230, us 231, us 232, us 233, us 234, us 235, us 236, us 237, us 238, us 239, us 240, us 241, us 242, us 243, us 244, us 245, us 246, us 247, us 248, us 249, us 250, us 251, us 252, us 253, us 254, us 255, us 256, us 257, us 258, us 259, us 260, us 261, us 262, us 263, us 264, us 265, us 266, us 267, us 268, us 269, us 270, us 271, us 272, us 273, us 274, us 275, us 276, us 277, us 278, us 279, us 280, us 281, us 282, us 283, us 284, us 285, us 286, us 287, us 288, us 289, us 290, us 291, us 292, us 293, us 294, us 295, us 296, us 297, us 298, us 299, us 300, us 301, us 302, us 303, us 304, us 305, us 306, us 307, us 308, us 309, us 310, us 311, us 312, us 313, us 314, us 315, us 316, us 317, us 318, us 319, us 320, us 321, us 322, us 323, us 324, us 325, us 326, us 327, us 328, us 329, us 330, us 331, us 332, us 333, us 334, us 335, us 336, us 337, us 338, us 339, us 340, us 341, us 342, us 343, us 344, us 345, us 346, us 347, us 348, us 349, us 350, us 351, us 352, us 353, us 354, us 355, us 356, us 357, us 358, us 359, us 360, us 361, us 362, us 363, us 364, us 365, us 366, us 367, us 368, us 369, us 370, us 371, us 372, us 373, us 374, us 375, us 376, us 377, us 378, us 379, us 380, us 381, us 382, us 383, us 384, us 385, us 386, us 387, us 388, us 389, us 390, us 391, us 392, us 393, us 394, us 395, us 396, us 397, us 398, us 399, us 400, us 401, us 402, us 403, us 404, us 405, us 406, us 407, us 408, us 409, us 410, us 411, us 412, us 413, us 414, us 415, us 416, us 417, us 418, us 419, us 420, us 421, us 422, us 423, us 424, us 425, us 426, us 427, us 428, us 429, us 430, us 431, us 432, us 433, us 434, us 435, us 436, us 437, us 438, us 439, us 440, us 441, us 442, us 443, us 444, us 445], []⟩ ∧ v = s.kept + (m : Int) ∧ m + k = N ∧ Sit wr base R M S X vs vu vf vc (rowU s s.kept m) x ∧ FrM base M S W wr
theorem LoopU.of {W : World} {A : Option Addr} {n c : Nat} {R M S X base : Nat} {vs vf vc : Value} {s : RS} {i : Int} {x : It} {u : Int} {N k : Nat} {a : Act} {wr : World} {vu : Value} {m : Nat} {v : Int} (hf : ∃ us : Nat → Value, a = ⟨#[.slice A n c, us 1, .pointer (some ⟨R, 0, none⟩), us 3, .pointer (some ⟨M, 0, none⟩), .pointer (some ⟨S, 0, none⟩), vs, vu, .int .i64 s.kept, .int .i64 s.opn, .int .i64 i, .pointer (some ⟨X, 0, none⟩), us 12, us 13, .int .i64 u, .int .i64 v, us 16, us 17, us 18, us 19, us 20, us 21, us 22, us 23, us 24, us 25, us 26, us 27, us 28, us 29, us 30, us 31, us 32, us 33, us 34, us 35, us 36, us 37, us 38, us 39, us 40, us 41, us 42, us 43, us 44, us 45, us 46, us 47, us 48, us 49, us 50, us 51, us 52, us 53, us 54, us 55, us 56, us 57, us 58, us 59, us 60, us 61, us 62, us 63, us 64, us 65, us 66, us 67, us 68, us 69, us 70, us 71, us 72, us 73, us 74, us 75, us 76, us 77, us 78, us 79, us 80, us 81, us 82, us 83, us 84, us 85, us 86, us 87, us 88, us 89, us 90, us 91, us 92, us 93, us 94, us 95, us 96, us 97, us 98, us 99, us 100, us 101, us 102, us 103, us 104, us 105, us 106, us 107, us 108, us 109, us 110, us 111, us 112, us 113, us 114, us 115, us 116, us 117, us 118, us 119, us 120, us 121, us 122, us 123, us 124, us 125, us 126, us 127, us 128, us 129, us 130, us 131, us 132, us 133, us 134, us 135, us 136, us 137, us 138, us 139, us 140, us 141, us 142, us 143, us 144, us 145, us 146, us 147, us 148, us 149, us 150, us 151, us 152, us 153, us 154, us 155, us 156, us 157, us 158, us 159, us 160, us 161, us 162, us 163, us 164, us 165, us 166, us 167, us 168, us 169, us 170, us 171, us 172, us 173, us 174, us 175, us 176, us 177, us 178, us 179, us 180, us 181, us 182, us 183, us 184, us 185, us 186, us 187, us 188, us 189, us 190, us 191, us 192, us 193, us 194, us 195, us 196, us 197, us 198, us 199, us 200, us 201, us 202, us 203, us 204, us 205, us 206, us 207, us 208, us 209, us 210, us 211, us 212, us 213, us 214, us 215, us 216, us 217, us 218, us 219, us 220, us 221, us 222, us 223, us 224, us 225, us 226, us 227, us 228, us 229, us 230, us 231, us 232, us 233, us 234, us 235, us 236, us 237, us 238, us 239, us 240, us 241, us 242, us 243, us 244, us 245, us 246, us 247, us 248, us 249, us 250, us 251, us 252, us 253, us 254, us 255, us 256, us 257, us 258, us 259, us 260, us 261, us 262, us 263, us 264, us 265, us 266, us 267, us 268, us 269, us 270, us 271, us 272, us 273, us 274, us 275, us 276, us 277, us 278, us 279, us 280, us 281, us 282, us 283, us 284, us 285, us 286, us 287, us 288, us 289, us 290, us 291, us 292, us 293, us 294, us 295, us 296, us 297, us 298, us 299, us 300, us 301, us 302, us 303, us 304, us 305, us 306, us 307, us 308, us 309, us 310, us 311, us 312, us 313, us 314, us 315, us 316, us 317, us 318, us 319, us 320, us 321, us 322, us 323, us 324, us 325, us 326, us 327, us 328, us 329, us 330, us 331, us 332, us 333, us 334, us 335, us 336, us 337, us 338, us 339, us 340, us 341, us 342, us 343, us 344, us 345, us 346, us 347, us 348, us 349, us 350, us 351, us 352, us 353, us 354, us 355, us 356, us 357, us 358, us 359, us 360, us 361, us 362, us 363, us 364, us 365, us 366, us 367, us 368, us 369, us 370, us 371, us 372, us 373, us 374, us 375, us 376, us 377, us 378, us 379, us 380, us 381, us 382, us 383, us 384, us 385, us 386, us 387, us 388, us 389, us 390, us 391, us 392, us 393, us 394, us 395, us 396, us 397, us 398, us 399, us 400, us 401, us 402, us 403, us 404, us 405, us 406, us 407, us 408, us 409, us 410, us 411, us 412, us 413, us 414, us 415, us 416, us 417, us 418, us 419, us 420, us 421, us 422, us 423, us 424, us 425, us 426, us 427, us 428, us 429, us 430, us 431, us 432, us 433, us 434, us 435, us 436, us 437, us 438, us 439, us 440, us 441, us 442, us 443, us 444, us 445], []⟩) (hv : v = s.kept + (m : Int)) (hm : m + k = N) (hs : Sit wr base R M S X vs vu vf vc (rowU s s.kept m) x) (hr : FrM base M S W wr) : LoopU W A n c R M S X base vs vf vc s i x u N k a wr := hf.elim fun us e => ⟨us, vu, m, v, e, hv, hm, hs, hr⟩
set_option maxRecDepth 100000 in
theorem frame_row {a : Act} {v0 v2 v4 v5 v6 v7 v8 v9 v10 v11 v14 v15 : Value} (hs : a.tmps.size = 446) (hm : a.defers = []) (h0 : a.tmps[0]? = some v0) (h2 : a.tmps[2]? = some v2) (h4 : a.tmps[4]? = some v4) (h5 : a.tmps[5]? = some v5) (h6 : a.tmps[6]? = some v6) (h7 : a.tmps[7]? = some v7) (h8 : a.tmps[8]? = some v8) (h9 : a.tmps[9]? = some v9) (h10 : a.tmps[10]? = some v10) (h11 : a.tmps[11]? = some v11) (h14 : a.tmps[14]? = some v14) (h15 : a.tmps[15]? = some v15) : ∃ us : Nat → Value, a = ⟨#[v0, us 1, v2, us 3, v4, v5, v6, v7, v8, v9, v10, v11, us 12, us 13, v14, v15, us 16, us 17, us 18, us 19, us 20, us 21, us 22, us 23, us 24, us 25, us 26, us 27, us 28, us 29, us 30, us 31, us 32, us 33, us 34, us 35, us 36, us 37, us 38, us 39, us 40, us 41, us 42, us 43, us 44, us 45, us 46, us 47, us 48, us 49, us 50, us 51, us 52, us 53, us 54, us 55, us 56, us 57, us 58, us 59, us 60, us 61, us 62, us 63, us 64, us 65, us 66, us 67, us 68, us 69, us 70, us 71, us 72, us 73, us 74, us 75, us 76, us 77, us 78, us 79, us 80, us 81, us 82, us 83, us 84, us 85, us 86, us 87, us 88, us 89, us 90, us 91, us 92, us 93, us 94, us 95, us 96, us 97, us 98, us 99, us 100, us 101, us 102, us 103, us 104, us 105, us 106, us 107, us 108, us 109, us 110, us 111, us 112, us 113, us 114, us 115, us 116, us 117, us 118, us 119, us 120, us 121, us 122, us 123, us 124, us 125, us 126, us 127, us 128, us 129, us 130, us 131, us 132, us 133, us 134, us 135, us 136, us 137, us 138, us 139, us 140, us 141, us 142, us 143, us 144, us 145, us 146, us 147, us 148, us 149, us 150, us 151, us 152, us 153, us 154, us 155, us 156, us 157, us 158, us 159, us 160, us 161, us 162, us 163, us 164, us 165, us 166, us 167, us 168, us 169, us 170, us 171, us 172, us 173, us 174, us 175, us 176, us 177, us 178, us 179, us 180, us 181, us 182, us 183, us 184, us 185, us 186, us 187, us 188, us 189, us 190, us 191, us 192, us 193, us 194, us 195, us 196, us 197, us 198, us 199, us 200, us 201, us 202, us 203, us 204, us 205, us 206, us 207, us 208, us 209, us 210, us 211, us 212, us 213, us 214, us 215, us 216, us 217, us 218, us 219, us 220, us 221, us 222, us 223, us 224, us 225, us 226, us 227, us 228, us 229, us 230, us 231, us 232, us 233, us 234, us 235, us 236, us 237, us 238, us 239, us 240, us 241, us 242, us 243, us 244, us 245, us 246, us 247, us 248, us 249, us 250, us 251, us 252, us 253, us 254, us 255, us 256, us 257, us 258, us 259, us 260, us 261, us 262, us 263, us 264, us 265, us 266, us 267, us 268, us 269, us 270, us 271, us 272, us 273, us 274, us 275, us 276, us 277, us 278, us 279, us 280, us 281, us 282, us 283, us 284, us 285, us 286, us 287, us 288, us 289, us 290, us 291, us 292, us 293, us 294, us 295, us 296, us 297, us 298, us 299, us 300, us 301, us 302, us 303, us 304, us 305, us 306, us 307, us 308, us 309, us 310, us 311, us 312, us 313, us 314, us 315, us 316, us 317, us 318, us 319, us 320, us 321, us 322, us 323, us 324, us 325, us 326, us 327, us 328, us 329, us 330, us 331, us 332, us 333, us 334, us 335, us 336, us 337, us 338, us 339, us 340, us 341, us 342, us 343, us 344, us 345, us 346, us 347, us 348, us 349, us 350, us 351, us 352, us 353, us 354, us 355, us 356, us 357, us 358, us 359, us 360, us 361, us 362, us 363, us 364, us 365, us 366, us 367, us 368, us 369, us 370, us 371, us 372, us 373, us 374, us 375, us 376, us 377, us 378, us 379, us 380, us 381, us 382, us 383, us 384, us 385, us 386, us 387, us 388, us 389, us 390, us 391, us 392, us 393, us 394, us 395, us 396, us 397, us 398, us 399, us 400, us 401, us 402, us 403, us 404, us 405, us 406, us 407, us 408, us 409, us 410, us 411, us 412, us 413, us 414, us 415, us 416, us 417, us 418, us 419, us 420, us 421, us 422, us 423, us 424, us 425, us 426, us 427, us 428, us 429, us 430, us 431, us 432, us 433, us 434, us 435, us 436, us 437, us 438, us 439, us 440, us 441, us 442, us 443, us 444, us 445], []⟩ := by
  obtain ⟨⟨l⟩, m⟩ := a
  have hm' : m = [] := hm
  subst hm'
  obtain ⟨f, hf, hl⟩ := list_fn l 446 hs
  have e0 := hf 0 (by omega)
  have k0 : l[0]? = some v0 := by rw [← h0]; exact List.getElem?_toArray.symm
  rw [k0] at e0
  injection e0 with e0
  have e2 := hf 2 (by omega)
  have k2 : l[2]? = some v2 := by rw [← h2]; exact List.getElem?_toArray.symm
  rw [k2] at e2
  injection e2 with e2
  have e4 := hf 4 (by omega)
  have k4 : l[4]? = some v4 := by rw [← h4]; exact List.getElem?_toArray.symm
  rw [k4] at e4
  injection e4 with e4
  have e5 := hf 5 (by omega)
  have k5 : l[5]? = some v5 := by rw [← h5]; exact List.getElem?_toArray.symm
  rw [k5] at e5
  injection e5 with e5
  have e6 := hf 6 (by omega)
  have k6 : l[6]? = some v6 := by rw [← h6]; exact List.getElem?_toArray.symm
  rw [k6] at e6
  injection e6 with e6
  have e7 := hf 7 (by omega)
  have k7 : l[7]? = some v7 := by rw [← h7]; exact List.getElem?_toArray.symm
  rw [k7] at e7
  injection e7 with e7
  have e8 := hf 8 (by omega)
  have k8 : l[8]? = some v8 := by rw [← h8]; exact List.getElem?_toArray.symm
  rw [k8] at e8
  injection e8 with e8
  have e9 := hf 9 (by omega)
  have k9 : l[9]? = some v9 := by rw [← h9]; exact List.getElem?_toArray.symm
  rw [k9] at e9
  injection e9 with e9
  have e10 := hf 10 (by omega)
  have k10 : l[10]? = some v10 := by rw [← h10]; exact List.getElem?_toArray.symm
  rw [k10] at e10
  injection e10 with e10
  have e11 := hf 11 (by omega)
  have k11 : l[11]? = some v11 := by rw [← h11]; exact List.getElem?_toArray.symm
  rw [k11] at e11
  injection e11 with e11
  have e14 := hf 14 (by omega)
  have k14 : l[14]? = some v14 := by rw [← h14]; exact List.getElem?_toArray.symm
  rw [k14] at e14
  injection e14 with e14
  have e15 := hf 15 (by omega)
  have k15 : l[15]? = some v15 := by rw [← h15]; exact List.getElem?_toArray.symm
  rw [k15] at e15
  injection e15 with e15

  clear h0 k0
  subst e0
  clear h2 k2
  subst e2
  clear h4 k4
  subst e4
  clear h5 k5
  subst e5
  clear h6 k6
  subst e6
  clear h7 k7
  subst e7
  clear h8 k8
  subst e8
  clear h9 k9
  subst e9
  clear h10 k10
  subst e10
  clear h11 k11
  subst e11
  clear h14 k14
  subst e14
  clear h15 k15
  subst e15

  exact ⟨f, by rw [hl]; rfl⟩
noncomputable def codeM60 : Code := (Try.f13.body.bind (findR 60)).getD .skip
set_option maxRecDepth 1000000 in
set_option maxHeartbeats 8000000 in
theorem sw_60 {Q : Exit → Act → World → Prop} {W : World} {base n c R M S X : Nat} {A : Option Addr} {vs vu vf vc : Value} {s : RS} {i : Int} {x : It} {a : Act} {cc : Int} (hcc : x.ty * 16 + x.tg = cc) (ha : Live a A n c R M S X vs vu s s i x cc) (h : Sit W base R M S X vs vu vf vc s x)
    (hs : s.Fine) (hw : x.wide = true) (hok : x.ok) (hN : OkN Q W base A n c R M S X s i x) (hE : OkE Q W R s x) (hP : ∀ c a d v w, Q (.panic c) (a.put d v) w → Q (.panic c) a w) (hne : ∀ v ∈ ([33, 32, 27, 26, 25, 24, 23, 22, 21, 20, 19, 18, 17, 16] : List Int), cc ≠ v) (K : Act → World → Prop) (hK : ∀ a w', Code.wp Try.prog (restC codeM60) Q a w' → K a w') : Code.wp Try.prog (headC codeM60) (Exit.then K Q) a W := by
  obtain ⟨us, rfl⟩ := ha
  conv => arg 2; whnf
  conv at hK => enter [a, w', 1, 2]; whnf
  dsimp only
  obtain ⟨w1, w2, w3, w4, _⟩ := wide_iff hw hok
  have hMl := heap_lt h.md.bm
  have hSl := heap_lt h.md.bs
  have hXl := heap_lt h.bx
  have hRl := heap_lt h.br
  have hMS := h.md.low.2.2
  obtain ⟨l1, l2, l3⟩ := h.low
  have r0 : W.cell? ⟨R, 0, none⟩ = some (.slice none 0 0) := cell_heap h.br (o := 0) rfl
  have r1 : W.cell? ⟨R, 1, none⟩ = some (.slice none 0 0) := cell_heap h.br (o := 1) rfl
  have r2 : W.cell? ⟨R, 2, none⟩ = some (.bool false) := cell_heap h.br (o := 2) rfl
  have g0 := frozen_heap h.br (o := 0)
  have g1 := frozen_heap h.br (o := 1)
  have g2 := frozen_heap h.br (o := 2)
  by_cases hv : cc = 34
  · subst hv
    have h1 : x.ty = 2 := by omega
    have h2 : x.tg = 2 := by omega
    have hE' : effS s x = if s.keeps = false ∨ usageS s x / 65536 ≠ s.kept / 65536 ∨ usageS s x < s.kept then (4, s) else addS { s with keeps := false } s.kept (usageS s x) := by simp [effS, h1, h2]
    have hu := usage_range hs hw hok
    have hkp := hs.kept
    have hul := hs.usages.1
    unfold u32k at hu hkp
    obtain ⟨u, hue⟩ : ∃ u, usageS s x = u := ⟨_, rfl⟩
    rw [hue] at hE' hu ⊢
    cases hkk : s.keeps with
    | false =>
      have hF : effS s x = (4, s) := by rw [hE', if_pos (.inl hkk)]
      have hk : keptI s = -1 := by unfold keptI; rw [hkk]; rfl
      rw [hk]
      go_wp2_with fail
      refine hE _ _ 4 (by rw [hF]) (by decide) rfl rfl rfl ?_ ?_
      · exact (zeroed h.br).1
      · exact (zeroed h.br).2
    | true =>
      have hk : keptI s = s.kept := by unfold keptI; rw [hkk]; rfl
      rw [hk]
      have hq1 : s.kept.tdiv 65536 = s.kept / 65536 := Int.tdiv_eq_ediv_of_nonneg hkp.1
      have hq2 : u.tdiv 65536 = u / 65536 := Int.tdiv_eq_ediv_of_nonneg hu.1
      have hwq1 : IntKind.i64.wrap (s.kept / 65536) = s.kept / 65536 := by rw [IntKind.wrap_i64]; omega
      have hwq2 : IntKind.i64.wrap (u / 65536) = u / 65536 := by rw [IntKind.wrap_i64]; omega
      have hn0 : decide (s.kept < 0) = false := decide_eq_false (by omega)
      by_cases ca : u / 65536 = s.kept / 65536
      · have ca1 : (s.kept / 65536 == u / 65536) = true := by rw [beq_iff_eq]; exact ca.symm
        have ca2 : decide (s.kept / 65536 = u / 65536) = true := decide_eq_true ca.symm
        by_cases cb : u < s.kept
        · have hF : effS s x = (4, s) := by rw [hE', if_pos (.inr (.inr cb))]
          have cb1 : decide (u < s.kept) = true := decide_eq_true cb
          rw [ca] at hq2 hwq2
          go_wp2_with fail
          refine hE _ _ 4 (by rw [hF]) (by decide) rfl rfl rfl ?_ ?_
          · exact (zeroed h.br).1
          · exact (zeroed h.br).2
        · have cb1 : decide (u < s.kept) = false := decide_eq_false cb
          have hA : effS s x = addS { s with keeps := false } s.kept u := by
            rw [hE', if_neg]
            rintro (e | e | e)
            · rw [hkk] at e; cases e
            · exact e ca
            · exact cb e
          rw [ca] at hq2 hwq2
          have ws1 : IntKind.i64.wrap ((s.usages.length : Int) + u) = (s.usages.length : Int) + u := by rw [IntKind.wrap_i64]; omega
          have ws2 : IntKind.i64.wrap ((s.usages.length : Int) + u - s.kept) = (s.usages.length : Int) + u - s.kept := by rw [IntKind.wrap_i64]; omega
          have ws3 : IntKind.i64.wrap ((s.usages.length : Int) + u - s.kept + 1) = (s.usages.length : Int) + u - s.kept + 1 := by rw [IntKind.wrap_i64]; omega
          obtain ⟨A7, c7, hvu, hB1, hB2⟩ := h.md.us.isSlice
          by_cases cd : 512 < (s.usages.length : Int) + (u - s.kept + 1)
          · have hF : effS s x = (3, { s with keeps := false }) := by rw [hA]; unfold addS; rw [if_pos cd]
            have cd1 : decide (512 < (s.usages.length : Int) + u - s.kept + 1) = true := decide_eq_true (by omega)
            rw [hvu]
            go_wp2_with fail
            refine hE _ _ 3 (by rw [hF]) (by decide) rfl rfl rfl ?_ ?_
            · exact (zeroed h.br).1
            · exact (zeroed h.br).2
          · obtain ⟨NN, hNN⟩ : ∃ NN : Nat, (u - s.kept + 1).toNat = NN := ⟨_, rfl⟩
            have hF : effS s x = (0, { rowU s s.kept NN with keeps := false }) := by rw [hA]; unfold addS; rw [if_neg cd, hNN]; rfl
            have cd1 : decide (512 < (s.usages.length : Int) + u - s.kept + 1) = false := decide_eq_false (by omega)
            obtain ⟨i1, hi1, hz0, hz1, hz2⟩ := info_parts info27
            have h' := h
            rw [hvu] at h'
            rw [hvu]
            go_wp2_with fail
            refine wp_loop_ghost_k (LoopU W A n c R M S X base vs vf vc s i x u NN) NN ?_ ?_
            · exact LoopU.of (frame_row rfl rfl rfl rfl rfl rfl rfl rfl rfl rfl rfl rfl rfl rfl) (m := 0) (by omega) (by omega) (h'.same rfl rfl (by simp [rowU]) rfl rfl rfl) FrM.refl
            intro gk a wr hI J K2 hJ hK2
            obtain ⟨us, vu, m, v, rfl, rfl, hm, hsit, hfr⟩ := hI
            obtain ⟨A9, c9, rfl, hD1, hD2⟩ := hsit.md.us.isSlice
            have hL : (rowU s s.kept m).usages.length = s.usages.length + m := by unfold rowU; simp
            have HL := hide hL
            clear hL
            by_cases hlt : s.kept + (m : Int) ≤ u
            · have hl1 : decide (s.kept + (m : Int) ≤ u) = true := decide_eq_true hlt
              have hw32 : IntKind.u32.wrap (s.kept + (m : Int)) = s.kept + (m : Int) := by rw [IntKind.wrap_u32]; omega
              have hw64 : IntKind.i64.wrap (s.kept + (m : Int) + 1) = s.kept + (m : Int) + 1 := by rw [IntKind.wrap_i64]; omega
              have hL2 : (rowU s s.kept m).usages.length ≤ 1024 := by rw [HL.out]; omega
              go_wp2_with (at_builtin; go_must (refine wpList_append_el (T := u32T) rfl (.tmp 194) (.tmp 197) 57 rfl base 27 i1 _ 4 Try.underlying57 hi1 hz0 hz1 hz2 rfl (by decide) _ (rowU s s.kept m).usages.length (rowU s s.kept m).usages (by rfl) (hsit.md.us.alloc _) wr.heap.size _ _ (s.kept + (m : Int)) (by rfl) (heap_at _ rfl) ⟨rfl, by unfold u32k; omega⟩ (by simp [Value.oneCell']) (by unfold maxLen; omega) (by omega) (Nat.le_trans hsit.hb (by simp)) ?_); intro g cap w4 hown4 hg4 hb4 hat4 hlt4)
              refine Handed.intro (gk - 1) (by omega) (hJ _ _ _ ?_)
              have hkW : Kept wr (wr.alloc (.cells #[.int .u32 (s.kept + (m : Int))] 27)) := (Below.refl _ _).alloc (Nat.le_refl _) _
              have h9 := (hsit.kept hkW).usTo (v' := .slice (some ⟨g, 0, none⟩) ((rowU s s.kept m).usages.length + 1) cap) hg4 (by rw [List.length_append]; exact hown4) (hat4.elim (fun e => .inr (.inl e.symm)) (fun e => .inr (.inr (by rw [e]; rfl))))
              rw [← rowU_succ] at h9
              exact LoopU.of (frame_row rfl rfl rfl rfl rfl rfl rfl rfl rfl rfl rfl rfl rfl rfl) (m := m + 1) (by omega) (by omega) h9 ((hfr.trans (FrM.kept hkW hsit.hb)).trans (FrM.below hb4))
            · have hl1 : decide (s.kept + (m : Int) ≤ u) = false := decide_eq_false hlt
              have hmN : m = NN := by omega
              subst hmN
              go_wp2_with fail
              refine hN _ _ vs _ vf vc _ hF (frame_end rfl rfl rfl rfl rfl rfl rfl rfl rfl rfl rfl rfl) (hsit.same rfl rfl rfl rfl rfl rfl) hfr
      · have hF : effS s x = (4, s) := by rw [hE', if_pos (.inr (.inl ca))]
        have ca1 : (s.kept / 65536 == u / 65536) = false := beq_false_of_ne (fun e => ca e.symm)
        have ca2 : decide (s.kept / 65536 = u / 65536) = false := decide_eq_false (fun e => ca e.symm)
        go_wp2_with fail
        refine hE _ _ 4 (by rw [hF]) (by decide) rfl rfl rfl ?_ ?_
        · exact (zeroed h.br).1
        · exact (zeroed h.br).2
  · have hv' : decide (cc = 34) = false := decide_eq_false hv
    go_upto_region 70 with (fail)
    refine sw_70 hcc (frame_item rfl rfl rfl rfl rfl rfl rfl rfl rfl rfl rfl rfl rfl rfl rfl rfl) h hs hw hok hN hE hP ?_ _ ?_
    · intro u hu
      rcases List.mem_cons.1 hu with rfl | hu
      · exact hv
      · exact hne u hu
    all_goals assumption
end Go.Proofs.Ytegdigfcgeoboaa
/- The switch, from region 58 on. Printed by gen_m.py. -/
namespace Go.Proofs.Ytegdigfcgeoboaa
open Go.RowKit Go.Maps
attribute [local go_sem ↓] Go.wp_at_zero Go.wp_at_succ

noncomputable def codeM58 : Code := (Try.f13.body.bind (findR 58)).getD .skip
set_option maxRecDepth 1000000 in
set_option maxHeartbeats 8000000 in
theorem sw_58 {Q : Exit → Act → World → Prop} {W : World} {base n c R M S X : Nat} {A : Option Addr} {vs vu vf vc : Value} {s : RS} {i : Int} {x : It} {a : Act} {cc : Int} (hcc : x.ty * 16 + x.tg = cc) (ha : Live a A n c R M S X vs vu s s i x cc) (h : Sit W base R M S X vs vu vf vc s x)
    (hs : s.Fine) (hw : x.wide = true) (hok : x.ok) (hN : OkN Q W base A n c R M S X s i x) (hE : OkE Q W R s x) (hP : ∀ c a d v w, Q (.panic c) (a.put d v) w → Q (.panic c) a w) (hne : ∀ v ∈ ([32, 27, 26, 25, 24, 23, 22, 21, 20, 19, 18, 17, 16] : List Int), cc ≠ v) (K : Act → World → Prop) (hK : ∀ a w', Code.wp Try.prog (restC codeM58) Q a w' → K a w') : Code.wp Try.prog (headC codeM58) (Exit.then K Q) a W := by
  obtain ⟨us, rfl⟩ := ha
  conv => arg 2; whnf
  conv at hK => enter [a, w', 1, 2]; whnf
  dsimp only
  obtain ⟨w1, w2, w3, w4, _⟩ := wide_iff hw hok
  have hMl := heap_lt h.md.bm
  have hSl := heap_lt h.md.bs
  have hXl := heap_lt h.bx
  have hRl := heap_lt h.br
  have hMS := h.md.low.2.2
  obtain ⟨l1, l2, l3⟩ := h.low
  have r0 : W.cell? ⟨R, 0, none⟩ = some (.slice none 0 0) := cell_heap h.br (o := 0) rfl
  have r1 : W.cell? ⟨R, 1, none⟩ = some (.slice none 0 0) := cell_heap h.br (o := 1) rfl
  have r2 : W.cell? ⟨R, 2, none⟩ = some (.bool false) := cell_heap h.br (o := 2) rfl
  have g0 := frozen_heap h.br (o := 0)
  have g1 := frozen_heap h.br (o := 1)
  have g2 := frozen_heap h.br (o := 2)
  by_cases hv : cc = 33
  · subst hv
    have h1 : x.ty = 2 := by omega
    have h2 : x.tg = 1 := by omega
    have hF : effS s x = (0, { s with kept := usageS s x, keeps := true }) := by simp [effS, h1, h2]
    go_wp2_with fail
    refine hN _ _ vs vu vf vc _ (hF) (frame_end rfl rfl rfl rfl rfl rfl rfl rfl rfl rfl rfl rfl) (h.same rfl rfl rfl rfl rfl rfl) (FrM.refl)
  · have hv' : decide (cc = 33) = false := decide_eq_false hv
    go_upto_region 60 with (fail)
    refine sw_60 hcc (frame_item rfl rfl rfl rfl rfl rfl rfl rfl rfl rfl rfl rfl rfl rfl rfl rfl) h hs hw hok hN hE hP ?_ _ ?_
    · intro u hu
      rcases List.mem_cons.1 hu with rfl | hu
      · exact hv
      · exact hne u hu
    all_goals assumption
end Go.Proofs.Ytegdigfcgeoboaa
