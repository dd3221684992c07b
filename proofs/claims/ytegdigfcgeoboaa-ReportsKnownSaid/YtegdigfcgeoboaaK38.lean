/- The law of the chapter on reports, part 38: Ng Nf Ne Nd Nc Nb Na Ja Jb. -/
import Derived.Test.YtegdigfcgeoboaaK37
set_option maxHeartbeats 16000000
set_option linter.unusedVariables false
set_option linter.unusedSimpArgs false
set_option linter.unusedSectionVars false
namespace Go.Proofs.Ytegdigfcgeoboaa
open Go.RowKit Go.Maps
attribute [local go_sem ↓] Go.wp_at_zero Go.wp_at_succ
noncomputable def codeM43 : Code := (Try.f13.body.bind (findR 43)).getD .skip
set_option maxRecDepth 1000000 in
theorem sw_43 {Q : Exit → Act → World → Prop} {W : World} {base n c R M S X : Nat} {A : Option Addr} {vs vu vf vc : Value} {s : RS} {i : Int} {x : It} {a : Act} {cc : Int} (hcc : x.ty * 16 + x.tg = cc) (ha : Live a A n c R M S X vs vu s s i x cc) (h : Sit W base R M S X vs vu vf vc s x)
  (hs : s.Fine) (hw : x.wide = true) (hok : x.ok) (hN : OkN Q W base A n c R M S X s i x) (hE : OkE Q W R s x) (hP : ∀ c a d v w, Q (.panic c) (a.put d v) w → Q (.panic c) a w) (hne : ∀ v ∈ ([24, 23, 22, 21, 20, 19, 18, 17, 16] : List Int), cc ≠ v) (K : Act → World → Prop) (hK : ∀ a w', Code.wp Try.prog (restC codeM43) Q a w' → K a w') : Code.wp Try.prog (headC codeM43) (Exit.then K Q) a W := by
 obtain ⟨us, rfl⟩ := ha
 conv => arg 2; whnf
 conv at hK => enter [a, w', 1, 2]; whnf
 dsimp only
 obtain ⟨w1, w2, w3, w4, _⟩ := wide_iff hw hok
 have hMl := heap_lt h.md.bm
 have hSl := heap_lt h.md.bs
 have hXl := heap_lt h.bx
 have hRl := heap_lt h.br
 have hMS := h.md.low.2.2
 obtain ⟨l1, l2, l3⟩ := h.low
 have r0 : W.cell? ⟨R, 0, none⟩ = some (.slice none 0 0) := cell_heap h.br (o := 0) rfl
 have r1 : W.cell? ⟨R, 1, none⟩ = some (.slice none 0 0) := cell_heap h.br (o := 1) rfl
 have r2 : W.cell? ⟨R, 2, none⟩ = some (.bool false) := cell_heap h.br (o := 2) rfl
 have g0 := frozen_heap h.br (o := 0)
 have g1 := frozen_heap h.br (o := 1)
 have g2 := frozen_heap h.br (o := 2)
 by_cases hv : cc = 25
 ·subst hv
  have h1 : x.ty = 1 := by omega
  have h2 : x.tg = 9 := by omega
  have hF : effS s x = (0, { s with g := { s.g with count := x.data } }) := by simp [effS, h1, h2]
  have p4 : W.cell? ⟨S, 4, none⟩ = some (.int .i64 s.g.count) := cell_heap h.md.bs (o := 4) rfl
  have f4 := frozen_heap h.md.bs (o := 4)
  go_wp2_with fail
  refine hN _ _ vs vu vf vc _ (hF) (frame_end rfl rfl rfl rfl rfl rfl rfl rfl rfl rfl rfl rfl) (h.setS 4 _ rfl rfl rfl rfl rfl rfl) (FrM.setS 4 _)
 ·have hv' : decide (cc = 25) = false := decide_eq_false hv
  go_upto_region 45 with (fail)
  refine sw_45 hcc (frame_item rfl rfl rfl rfl rfl rfl rfl rfl rfl rfl rfl rfl rfl rfl rfl rfl) h hs hw hok hN hE hP ?_ _ ?_
  ·intro u hu
   rcases List.mem_cons.1 hu with rfl | hu
   ·exact hv
   ·exact hne u hu
  all_goals assumption
noncomputable def codeM38 : Code := (Try.f13.body.bind (findR 38)).getD .skip
set_option maxRecDepth 1000000 in
theorem sw_38 {Q : Exit → Act → World → Prop} {W : World} {base n c R M S X : Nat} {A : Option Addr} {vs vu vf vc : Value} {s : RS} {i : Int} {x : It} {a : Act} {cc : Int} (hcc : x.ty * 16 + x.tg = cc) (ha : Live a A n c R M S X vs vu s s i x cc) (h : Sit W base R M S X vs vu vf vc s x)
  (hs : s.Fine) (hw : x.wide = true) (hok : x.ok) (hN : OkN Q W base A n c R M S X s i x) (hE : OkE Q W R s x) (hP : ∀ c a d v w, Q (.panic c) (a.put d v) w → Q (.panic c) a w) (hne : ∀ v ∈ ([23, 22, 21, 20, 19, 18, 17, 16] : List Int), cc ≠ v) (K : Act → World → Prop) (hK : ∀ a w', Code.wp Try.prog (restC codeM38) Q a w' → K a w') : Code.wp Try.prog (headC codeM38) (Exit.then K Q) a W := by
 obtain ⟨us, rfl⟩ := ha
 conv => arg 2; whnf
 conv at hK => enter [a, w', 1, 2]; whnf
 dsimp only
 obtain ⟨w1, w2, w3, w4, _⟩ := wide_iff hw hok
 have hMl := heap_lt h.md.bm
 have hSl := heap_lt h.md.bs
 have hXl := heap_lt h.bx
 have hRl := heap_lt h.br
 have hMS := h.md.low.2.2
 obtain ⟨l1, l2, l3⟩ := h.low
 have r0 : W.cell? ⟨R, 0, none⟩ = some (.slice none 0 0) := cell_heap h.br (o := 0) rfl
 have r1 : W.cell? ⟨R, 1, none⟩ = some (.slice none 0 0) := cell_heap h.br (o := 1) rfl
 have r2 : W.cell? ⟨R, 2, none⟩ = some (.bool false) := cell_heap h.br (o := 2) rfl
 have g0 := frozen_heap h.br (o := 0)
 have g1 := frozen_heap h.br (o := 1)
 have g2 := frozen_heap h.br (o := 2)
 by_cases hv : cc = 24
 ·subst hv
  have h1 : x.ty = 1 := by omega
  have h2 : x.tg = 8 := by omega
  have hF : effS s x = if x.data < 1 ∨ 255 < x.data then (4, s) else (0, { s with g := { s.g with report := x.data }, numbered := true }) := by simp [effS, h1, h2]
  have p5 : W.cell? ⟨S, 5, none⟩ = some (.int .i64 s.g.report) := cell_heap h.md.bs (o := 5) rfl
  have f5 := frozen_heap h.md.bs (o := 5)
  have m2 : W.cell? ⟨M, 2, none⟩ = some (.bool s.numbered) := cell_heap h.md.bm (o := 2) rfl
  have n2 := frozen_heap h.md.bm (o := 2)
  obtain ⟨d0, d1, _⟩ := data_lt hw hok
  by_cases hd : x.data = 0
  ·have hd' : decide (x.data = 0) = true := decide_eq_true hd
   go_wp2_with fail
   refine hE _ _ 4 (by rw [hF, if_pos (by omega)]) (by decide) rfl rfl rfl ?_ ?_
   ·exact (zeroed h.br).1
   ·exact (zeroed h.br).2
  ·have hd' : decide (x.data = 0) = false := decide_eq_false hd
   by_cases hd2 : 255 < x.data
   ·have hd2' : decide (255 < x.data) = true := decide_eq_true hd2
    go_wp2_with fail
    refine hE _ _ 4 (by rw [hF, if_pos (by omega)]) (by decide) rfl rfl rfl ?_ ?_
    ·exact (zeroed h.br).1
    ·exact (zeroed h.br).2
   ·have hd2' : decide (255 < x.data) = false := decide_eq_false hd2
    go_wp2_with fail
    refine hN _ _ vs vu vf vc _ (hF.trans (if_neg (by omega))) (frame_end rfl rfl rfl rfl rfl rfl rfl rfl rfl rfl rfl rfl) ((h.setS 5 (.int .i64 x.data) (s' := { s with g := { s.g with report := x.data } }) rfl rfl rfl rfl rfl rfl).setM 2 _ rfl rfl rfl rfl rfl rfl) ((FrM.setS 5 _).trans (FrM.setM 2 _))
 ·have hv' : decide (cc = 24) = false := decide_eq_false hv
  go_upto_region 43 with (fail)
  refine sw_43 hcc (frame_item rfl rfl rfl rfl rfl rfl rfl rfl rfl rfl rfl rfl rfl rfl rfl rfl) h hs hw hok hN hE hP ?_ _ ?_
  ·intro u hu
   rcases List.mem_cons.1 hu with rfl | hu
   ·exact hv
   ·exact hne u hu
  all_goals assumption
noncomputable def codeM36 : Code := (Try.f13.body.bind (findR 36)).getD .skip
set_option maxRecDepth 1000000 in
theorem sw_36 {Q : Exit → Act → World → Prop} {W : World} {base n c R M S X : Nat} {A : Option Addr} {vs vu vf vc : Value} {s : RS} {i : Int} {x : It} {a : Act} {cc : Int} (hcc : x.ty * 16 + x.tg = cc) (ha : Live a A n c R M S X vs vu s s i x cc) (h : Sit W base R M S X vs vu vf vc s x)
  (hs : s.Fine) (hw : x.wide = true) (hok : x.ok) (hN : OkN Q W base A n c R M S X s i x) (hE : OkE Q W R s x) (hP : ∀ c a d v w, Q (.panic c) (a.put d v) w → Q (.panic c) a w) (hne : ∀ v ∈ ([22, 21, 20, 19, 18, 17, 16] : List Int), cc ≠ v) (K : Act → World → Prop) (hK : ∀ a w', Code.wp Try.prog (restC codeM36) Q a w' → K a w') : Code.wp Try.prog (headC codeM36) (Exit.then K Q) a W := by
 obtain ⟨us, rfl⟩ := ha
 conv => arg 2; whnf
 conv at hK => enter [a, w', 1, 2]; whnf
 dsimp only
 obtain ⟨w1, w2, w3, w4, _⟩ := wide_iff hw hok
 have hMl := heap_lt h.md.bm
 have hSl := heap_lt h.md.bs
 have hXl := heap_lt h.bx
 have hRl := heap_lt h.br
 have hMS := h.md.low.2.2
 obtain ⟨l1, l2, l3⟩ := h.low
 have r0 : W.cell? ⟨R, 0, none⟩ = some (.slice none 0 0) := cell_heap h.br (o := 0) rfl
 have r1 : W.cell? ⟨R, 1, none⟩ = some (.slice none 0 0) := cell_heap h.br (o := 1) rfl
 have r2 : W.cell? ⟨R, 2, none⟩ = some (.bool false) := cell_heap h.br (o := 2) rfl
 have g0 := frozen_heap h.br (o := 0)
 have g1 := frozen_heap h.br (o := 1)
 have g2 := frozen_heap h.br (o := 2)
 by_cases hv : cc = 23
 ·subst hv
  have h1 : x.ty = 1 := by omega
  have h2 : x.tg = 7 := by omega
  have hF : effS s x = (0, { s with g := { s.g with size := x.data } }) := by simp [effS, h1, h2]
  have p3 : W.cell? ⟨S, 3, none⟩ = some (.int .i64 s.g.size) := cell_heap h.md.bs (o := 3) rfl
  have f3 := frozen_heap h.md.bs (o := 3)
  go_wp2_with fail
  refine hN _ _ vs vu vf vc _ (hF) (frame_end rfl rfl rfl rfl rfl rfl rfl rfl rfl rfl rfl rfl) (h.setS 3 _ rfl rfl rfl rfl rfl rfl) (FrM.setS 3 _)
 ·have hv' : decide (cc = 23) = false := decide_eq_false hv
  go_upto_region 38 with (fail)
  refine sw_38 hcc (frame_item rfl rfl rfl rfl rfl rfl rfl rfl rfl rfl rfl rfl rfl rfl rfl rfl) h hs hw hok hN hE hP ?_ _ ?_
  ·intro u hu
   rcases List.mem_cons.1 hu with rfl | hu
   ·exact hv
   ·exact hne u hu
  all_goals assumption
noncomputable def codeM30' : Code := (Try.f13.body.bind (findR 30)).getD .skip
noncomputable def codeM32 : Code := elseC (restC codeM30')
set_option maxRecDepth 1000000 in
theorem sw_32 {Q : Exit → Act → World → Prop} {W : World} {base n c R M S X : Nat} {A : Option Addr} {vs vu vf vc : Value} {s : RS} {i : Int} {x : It} {a : Act} {cc : Int} (hcc : x.ty * 16 + x.tg = cc) (ha : Live a A n c R M S X vs vu s s i x cc) (h : Sit W base R M S X vs vu vf vc s x)
  (hs : s.Fine) (hw : x.wide = true) (hok : x.ok) (hN : OkN Q W base A n c R M S X s i x) (hE : OkE Q W R s x) (hP : ∀ c a d v w, Q (.panic c) (a.put d v) w → Q (.panic c) a w) (hne : ∀ v ∈ ([18, 17, 16] : List Int), cc ≠ v) (K K2 : Act → World → Prop) (hK : ∀ a w', Code.wp Try.prog (restC (headC codeM32)) (Exit.then K2 Q) a w' → K a w') (hK2 : ∀ a w', Code.wp Try.prog (restC codeM32) Q a w' → K2 a w') : Code.wp Try.prog (headC (headC codeM32)) (Exit.then K (Exit.then K2 Q)) a W := by
 obtain ⟨us, rfl⟩ := ha
 conv => arg 2; whnf
 conv at hK => enter [a, w', 1, 2]; whnf
 conv at hK2 => enter [a, w', 1, 2]; whnf
 dsimp only
 obtain ⟨w1, w2, w3, w4, _⟩ := wide_iff hw hok
 have hMl := heap_lt h.md.bm
 have hSl := heap_lt h.md.bs
 have hXl := heap_lt h.bx
 have hRl := heap_lt h.br
 have hMS := h.md.low.2.2
 obtain ⟨l1, l2, l3⟩ := h.low
 have r0 : W.cell? ⟨R, 0, none⟩ = some (.slice none 0 0) := cell_heap h.br (o := 0) rfl
 have r1 : W.cell? ⟨R, 1, none⟩ = some (.slice none 0 0) := cell_heap h.br (o := 1) rfl
 have r2 : W.cell? ⟨R, 2, none⟩ = some (.bool false) := cell_heap h.br (o := 2) rfl
 have g0 := frozen_heap h.br (o := 0)
 have g1 := frozen_heap h.br (o := 1)
 have g2 := frozen_heap h.br (o := 2)
 by_cases hv : cc = 19 ∨ cc = 20 ∨ cc = 21 ∨ cc = 22
 ·have h1 : x.ty = 1 := by omega
  have h2 : x.tg = 3 ∨ x.tg = 4 ∨ x.tg = 5 ∨ x.tg = 6 := by omega
  have hF : effS s x = (0, s) := by rcases h2 with h2 | h2 | h2 | h2 <;> simp [effS, h1, h2]
  clear h2
  rcases hv with rfl | rfl | rfl | rfl
  all_goals
   go_wp2_with fail
   refine hN _ _ vs vu vf vc _ (hF) (frame_end rfl rfl rfl rfl rfl rfl rfl rfl rfl rfl rfl rfl) (h) (FrM.refl)
 ·have hv1 : decide (cc = 19) = false := decide_eq_false (by omega)
  have hv2 : (cc == 20) = false := beq_false_of_ne (by omega)
  have hv3 : (cc == 21) = false := beq_false_of_ne (by omega)
  have hv4 : (cc == 22) = false := beq_false_of_ne (by omega)
  go_upto_region 36 with (fail)
  refine sw_36 hcc (frame_item rfl rfl rfl rfl rfl rfl rfl rfl rfl rfl rfl rfl rfl rfl rfl rfl) h hs hw hok hN hE hP ?_ _ ?_
  ·intro u hu
   have hn := hne u
   simp only [List.mem_cons, List.not_mem_nil, or_false] at hu hn
   omega
  ·assumption
noncomputable def codeM30 : Code := (Try.f13.body.bind (findR 30)).getD .skip
set_option maxRecDepth 1000000 in
theorem sw_30 {Q : Exit → Act → World → Prop} {W : World} {base n c R M S X : Nat} {A : Option Addr} {vs vu vf vc : Value} {s : RS} {i : Int} {x : It} {a : Act} {cc : Int} (hcc : x.ty * 16 + x.tg = cc) (ha : Live a A n c R M S X vs vu s s i x cc) (h : Sit W base R M S X vs vu vf vc s x)
  (hs : s.Fine) (hw : x.wide = true) (hok : x.ok) (hN : OkN Q W base A n c R M S X s i x) (hE : OkE Q W R s x) (hP : ∀ c a d v w, Q (.panic c) (a.put d v) w → Q (.panic c) a w) (hne : ∀ v ∈ ([17, 16] : List Int), cc ≠ v) (K : Act → World → Prop) (hK : ∀ a w', Code.wp Try.prog (restC codeM30) Q a w' → K a w') : Code.wp Try.prog (headC codeM30) (Exit.then K Q) a W := by
 obtain ⟨us, rfl⟩ := ha
 conv => arg 2; whnf
 conv at hK => enter [a, w', 1, 2]; whnf
 dsimp only
 obtain ⟨w1, w2, w3, w4, _⟩ := wide_iff hw hok
 have hMl := heap_lt h.md.bm
 have hSl := heap_lt h.md.bs
 have hXl := heap_lt h.bx
 have hRl := heap_lt h.br
 have hMS := h.md.low.2.2
 obtain ⟨l1, l2, l3⟩ := h.low
 have r0 : W.cell? ⟨R, 0, none⟩ = some (.slice none 0 0) := cell_heap h.br (o := 0) rfl
 have r1 : W.cell? ⟨R, 1, none⟩ = some (.slice none 0 0) := cell_heap h.br (o := 1) rfl
 have r2 : W.cell? ⟨R, 2, none⟩ = some (.bool false) := cell_heap h.br (o := 2) rfl
 have g0 := frozen_heap h.br (o := 0)
 have g1 := frozen_heap h.br (o := 1)
 have g2 := frozen_heap h.br (o := 2)
 by_cases hv : cc = 18
 ·subst hv
  have h1 : x.ty = 1 := by omega
  have h2 : x.tg = 2 := by omega
  have hF : effS s x = (0, { s with g := { s.g with hi := signS x } }) := by simp [effS, h1, h2]
  have p2 : W.cell? ⟨S, 2, none⟩ = some (.int .i64 s.g.hi) := cell_heap h.md.bs (o := 2) rfl
  have f2 := frozen_heap h.md.bs (o := 2)
  go_wp2_with fail
  refine hN _ _ vs vu vf vc _ (hF) (frame_end rfl rfl rfl rfl rfl rfl rfl rfl rfl rfl rfl rfl) (h.setS 2 _ rfl rfl rfl rfl rfl rfl) (FrM.setS 2 _)
 ·have hv' : decide (cc = 18) = false := decide_eq_false hv
  go_upto_region 32 with (fail)
  refine sw_32 hcc (frame_item rfl rfl rfl rfl rfl rfl rfl rfl rfl rfl rfl rfl rfl rfl rfl rfl) h hs hw hok hN hE hP ?_ _ _ ?_ ?_
  ·intro u hu
   rcases List.mem_cons.1 hu with rfl | hu
   ·exact hv
   ·exact hne u hu
  all_goals assumption
noncomputable def codeM28 : Code := (Try.f13.body.bind (findR 28)).getD .skip
set_option maxRecDepth 1000000 in
theorem sw_28 {Q : Exit → Act → World → Prop} {W : World} {base n c R M S X : Nat} {A : Option Addr} {vs vu vf vc : Value} {s : RS} {i : Int} {x : It} {a : Act} {cc : Int} (hcc : x.ty * 16 + x.tg = cc) (ha : Live a A n c R M S X vs vu s s i x cc) (h : Sit W base R M S X vs vu vf vc s x)
  (hs : s.Fine) (hw : x.wide = true) (hok : x.ok) (hN : OkN Q W base A n c R M S X s i x) (hE : OkE Q W R s x) (hP : ∀ c a d v w, Q (.panic c) (a.put d v) w → Q (.panic c) a w) (hne : ∀ v ∈ ([16] : List Int), cc ≠ v) (K : Act → World → Prop) (hK : ∀ a w', Code.wp Try.prog (restC codeM28) Q a w' → K a w') : Code.wp Try.prog (headC codeM28) (Exit.then K Q) a W := by
 obtain ⟨us, rfl⟩ := ha
 conv => arg 2; whnf
 conv at hK => enter [a, w', 1, 2]; whnf
 dsimp only
 obtain ⟨w1, w2, w3, w4, _⟩ := wide_iff hw hok
 have hMl := heap_lt h.md.bm
 have hSl := heap_lt h.md.bs
 have hXl := heap_lt h.bx
 have hRl := heap_lt h.br
 have hMS := h.md.low.2.2
 obtain ⟨l1, l2, l3⟩ := h.low
 have r0 : W.cell? ⟨R, 0, none⟩ = some (.slice none 0 0) := cell_heap h.br (o := 0) rfl
 have r1 : W.cell? ⟨R, 1, none⟩ = some (.slice none 0 0) := cell_heap h.br (o := 1) rfl
 have r2 : W.cell? ⟨R, 2, none⟩ = some (.bool false) := cell_heap h.br (o := 2) rfl
 have g0 := frozen_heap h.br (o := 0)
 have g1 := frozen_heap h.br (o := 1)
 have g2 := frozen_heap h.br (o := 2)
 by_cases hv : cc = 17
 ·subst hv
  have h1 : x.ty = 1 := by omega
  have h2 : x.tg = 1 := by omega
  have hF : effS s x = (0, { s with g := { s.g with lo := signS x } }) := by simp [effS, h1, h2]
  have p1 : W.cell? ⟨S, 1, none⟩ = some (.int .i64 s.g.lo) := cell_heap h.md.bs (o := 1) rfl
  have f1 := frozen_heap h.md.bs (o := 1)
  go_wp2_with fail
  refine hN _ _ vs vu vf vc _ (hF) (frame_end rfl rfl rfl rfl rfl rfl rfl rfl rfl rfl rfl rfl) (h.setS 1 _ rfl rfl rfl rfl rfl rfl) (FrM.setS 1 _)
 ·have hv' : decide (cc = 17) = false := decide_eq_false hv
  go_upto_region 30 with (fail)
  refine sw_30 hcc (frame_item rfl rfl rfl rfl rfl rfl rfl rfl rfl rfl rfl rfl rfl rfl rfl rfl) h hs hw hok hN hE hP ?_ _ ?_
  ·intro u hu
   rcases List.mem_cons.1 hu with rfl | hu
   ·exact hv
   ·exact hne u hu
  all_goals assumption
noncomputable def codeM24 : Code := (Try.f13.body.bind (findR 24)).getD .skip
set_option maxRecDepth 1000000 in
theorem sw_24 {Q : Exit → Act → World → Prop} {W : World} {base n c R M S X : Nat} {A : Option Addr} {vs vu vf vc : Value} {s : RS} {i : Int} {x : It} {a : Act} {cc : Int} (hcc : x.ty * 16 + x.tg = cc) (ha : Live a A n c R M S X vs vu s s i x cc) (h : Sit W base R M S X vs vu vf vc s x)
  (hs : s.Fine) (hw : x.wide = true) (hok : x.ok) (hN : OkN Q W base A n c R M S X s i x) (hE : OkE Q W R s x) (hP : ∀ c a d v w, Q (.panic c) (a.put d v) w → Q (.panic c) a w) (hne : ∀ v ∈ ([] : List Int), cc ≠ v) (K : Act → World → Prop) (hK : ∀ a w', Code.wp Try.prog (restC codeM24) Q a w' → K a w') : Code.wp Try.prog (headC codeM24) (Exit.then K Q) a W := by
 obtain ⟨us, rfl⟩ := ha
 conv => arg 2; whnf
 conv at hK => enter [a, w', 1, 2]; whnf
 dsimp only
 obtain ⟨w1, w2, w3, w4, _⟩ := wide_iff hw hok
 have hMl := heap_lt h.md.bm
 have hSl := heap_lt h.md.bs
 have hXl := heap_lt h.bx
 have hRl := heap_lt h.br
 have hMS := h.md.low.2.2
 obtain ⟨l1, l2, l3⟩ := h.low
 have r0 : W.cell? ⟨R, 0, none⟩ = some (.slice none 0 0) := cell_heap h.br (o := 0) rfl
 have r1 : W.cell? ⟨R, 1, none⟩ = some (.slice none 0 0) := cell_heap h.br (o := 1) rfl
 have r2 : W.cell? ⟨R, 2, none⟩ = some (.bool false) := cell_heap h.br (o := 2) rfl
 have g0 := frozen_heap h.br (o := 0)
 have g1 := frozen_heap h.br (o := 1)
 have g2 := frozen_heap h.br (o := 2)
 by_cases hv : cc = 16
 ·subst hv
  have h1 : x.ty = 1 := by omega
  have h2 : x.tg = 0 := by omega
  have hF : effS s x = if 65535 < x.data then (4, s) else (0, { s with g := { s.g with page := x.data } }) := by simp [effS, h1, h2]
  have p0 : W.cell? ⟨S, 0, none⟩ = some (.int .i64 s.g.page) := cell_heap h.md.bs (o := 0) rfl
  have f0 := frozen_heap h.md.bs (o := 0)
  by_cases hd : 65535 < x.data
  ·go_wp2_with fail
   refine hE _ _ 4 (by rw [hF, if_pos (by omega)]) (by decide) rfl rfl rfl ?_ ?_
   ·exact (zeroed h.br).1
   ·exact (zeroed h.br).2
  ·go_wp2_with fail
   refine hN _ _ vs vu vf vc _ (hF.trans (if_neg (by omega))) (frame_end rfl rfl rfl rfl rfl rfl rfl rfl rfl rfl rfl rfl) (h.setS 0 _ rfl rfl rfl rfl rfl rfl) (FrM.setS 0 _)
 ·have hv' : decide (cc = 16) = false := decide_eq_false hv
  go_upto_region 28 with (fail)
  refine sw_28 hcc (frame_item rfl rfl rfl rfl rfl rfl rfl rfl rfl rfl rfl rfl rfl rfl rfl rfl) h hs hw hok hN hE hP ?_ _ ?_
  ·intro u hu
   rcases List.mem_cons.1 hu with rfl | hu
   ·exact hv
   ·exact hne u hu
  all_goals assumption
def OkC (Q : Exit → Act → World → Prop) (W : World) (base : Nat) (A : Option Addr) (n c : Nat) (R M S X : Nat) (s : RS) (i : Int) (x : It) : Prop :=
 ∀ a' W' vs' vu' vf' vc' s', effS s x = (0, s') → LiveN a' A n c R M S X vs' vu' (clearS s' x) i → Sit W' base R M S X vs' vu' vf' vc' (clearS s' x) x → FrM base M S W W' → Q .normal a' W'
def LiveU (a : Act) (A : Option Addr) (n c : Nat) (R M S X : Nat) (vs vu : Value) (s : RS) (i : Int) (x : It) : Prop := ∃ j : Nat → Value, a = ⟨#[.slice A n c, j 1, .pointer (some ⟨R, 0, none⟩), j 3, .pointer (some ⟨M, 0, none⟩), .pointer (some ⟨S, 0, none⟩), vs, vu, .int .i64 (keptI s), .int .i64 s.opn, .int .i64 i, .pointer (some ⟨X, 0, none⟩), .int .i64 x.data, .int .i64 (signS x), .int .i64 (usageS s x), j 15, j 16, j 17, j 18, j 19, j 20, j 21, j 22, j 23, j 24, j 25, j 26, j 27, j 28, j 29, j 30, j 31, j 32, j 33, j 34, j 35, j 36, j 37, j 38, j 39, j 40, j 41, j 42, j 43, j 44, j 45, j 46, j 47, j 48, j 49, j 50, j 51, j 52, j 53, j 54, j 55, j 56, j 57, j 58, j 59, j 60, j 61, j 62, j 63, j 64, j 65, j 66, j 67, j 68, j 69, j 70, j 71, j 72, j 73, j 74, j 75, j 76, j 77, j 78, j 79, j 80, j 81, j 82, j 83, j 84, j 85, j 86, j 87, j 88, j 89, j 90, j 91, j 92, j 93, j 94, j 95, j 96, j 97, j 98, j 99, j 100, j 101, j 102, j 103, j 104, j 105, j 106, j 107, j 108, j 109, j 110, j 111, j 112, j 113, j 114, j 115, j 116, j 117, j 118, j 119, j 120, j 121, j 122, j 123, j 124, j 125, j 126, j 127, j 128, j 129, j 130, j 131, j 132, j 133, j 134, j 135, j 136, j 137, j 138, j 139, j 140, j 141, j 142, j 143, j 144, j 145, j 146, j 147, j 148, j 149, j 150, j 151, j 152, j 153, j 154, j 155, j 156, j 157, j 158, j 159, j 160, j 161, j 162, j 163, j 164, j 165, j 166, j 167, j 168, j 169, j 170, j 171, j 172, j 173, j 174, j 175, j 176, j 177, j 178, j 179, j 180, j 181, j 182, j 183, j 184, j 185, j 186, j 187, j 188, j 189, j 190, j 191, j 192, j 193, j 194, j 195, j 196, j 197, j 198, j 199, j 200, j 201, j 202, j 203, j 204, j 205, j 206, j 207, j 208, j 209, j 210, j 211, j 212, j 213, j 214, j 215, j 216, j 217, j 218, j 219, j 220, j 221, j 222, j 223, j 224, j 225, j 226, j 227, j 228, j 229, j 230, j 231, j 232, j 233, j 234, j 235, j 236, j 237, j 238, j 239, j 240, j 241, j 242, j 243, j 244, j 245, j 246, j 247, j 248, j 249, j 250, j 251, j 252, j 253, j 254, j 255, j 256, j 257, j 258, j 259, j 260, j 261, j 262, j 263, j 264, j 265, j 266, j 267, j 268, j 269, j 270, j 271, j 272, j 273, j 274, j 275, j 276, j 277, j 278, j 279, j 280, j 281, j 282, j 283, j 284, j 285, j 286, j 287, j 288, j 289, j 290, j 291, j 292, j 293, j 294, j 295, j 296, j 297, j 298, j 299, j 300, j 301, j 302, j 303, j 304, j 305, j 306, j 307, j 308, j 309, j 310, j 311, j 312, j 313, j 314, j 315, j 316, j 317, j 318, j 319, j 320, j 321, j 322, j 323, j 324, j 325, j 326, j 327, j 328, j 329, j 330, j 331, j 332, j 333, j 334, j 335, j 336, j 337, j 338, j 339, j 340, j 341, j 342, j 343, j 344, j 345, j 346, j 347, j 348, j 349, j 350, j 351, j 352, j 353, j 354, j 355, j 356, j 357, j 358, j 359, j 360, j 361, j 362, j 363, j 364, j 365, j 366, j 367, j 368, j 369, j 370, j 371, j 372, j 373, j 374, j 375, j 376, j 377, j 378, j 379, j 380, j 381, j 382, j 383, j 384, j 385, j 386, j 387, j 388, j 389, j 390, j 391, j 392, j 393, j 394, j 395, j 396, j 397, j 398, j 399, j 400, j 401, j 402, j 403, j 404, j 405, j 406, j 407, j 408, j 409, j 410, j 411, j 412, j 413, j 414, j 415, j 416, j 417, j 418, j 419, j 420, j 421, j 422, j 423, j 424, j 425, j 426, j 427, j 428, j 429, j 430, j 431, j 432, j 433, j 434, j 435, j 436, j 437, j 438, j 439, j 440, j 441, j 442, j 443, j 444, j 445], []⟩
set_option maxRecDepth 100000 in
theorem frame_u {a : Act} {v0 v2 v4 v5 v6 v7 v8 v9 v10 v11 v12 v13 v14 : Value} (hs : a.tmps.size = 446) (hm : a.defers = []) (h0 : a.tmps[0]? = some v0) (h2 : a.tmps[2]? = some v2) (h4 : a.tmps[4]? = some v4) (h5 : a.tmps[5]? = some v5) (h6 : a.tmps[6]? = some v6) (h7 : a.tmps[7]? = some v7) (h8 : a.tmps[8]? = some v8) (h9 : a.tmps[9]? = some v9) (h10 : a.tmps[10]? = some v10) (h11 : a.tmps[11]? = some v11) (h12 : a.tmps[12]? = some v12) (h13 : a.tmps[13]? = some v13) (h14 : a.tmps[14]? = some v14) : ∃ j : Nat → Value, a = ⟨#[v0, j 1, v2, j 3, v4, v5, v6, v7, v8, v9, v10, v11, v12, v13, v14, j 15, j 16, j 17, j 18, j 19, j 20, j 21, j 22, j 23, j 24, j 25, j 26, j 27, j 28, j 29, j 30, j 31, j 32, j 33, j 34, j 35, j 36, j 37, j 38, j 39, j 40, j 41, j 42, j 43, j 44, j 45, j 46, j 47, j 48, j 49, j 50, j 51, j 52, j 53, j 54, j 55, j 56, j 57, j 58, j 59, j 60, j 61, j 62, j 63, j 64, j 65, j 66, j 67, j 68, j 69, j 70, j 71, j 72, j 73, j 74, j 75, j 76, j 77, j 78, j 79, j 80, j 81, j 82, j 83, j 84, j 85, j 86, j 87, j 88, j 89, j 90, j 91, j 92, j 93, j 94, j 95, j 96, j 97, j 98, j 99, j 100, j 101, j 102, j 103, j 104, j 105, j 106, j 107, j 108, j 109, j 110, j 111, j 112, j 113, j 114, j 115, j 116, j 117, j 118, j 119, j 120, j 121, j 122, j 123, j 124, j 125, j 126, j 127, j 128, j 129, j 130, j 131, j 132, j 133, j 134, j 135, j 136, j 137, j 138, j 139, j 140, j 141, j 142, j 143, j 144, j 145, j 146, j 147, j 148, j 149, j 150, j 151, j 152, j 153, j 154, j 155, j 156, j 157, j 158, j 159, j 160, j 161, j 162, j 163, j 164, j 165, j 166, j 167, j 168, j 169, j 170, j 171, j 172, j 173, j 174, j 175, j 176, j 177, j 178, j 179, j 180, j 181, j 182, j 183, j 184, j 185, j 186, j 187, j 188, j 189, j 190, j 191, j 192, j 193, j 194, j 195, j 196, j 197, j 198, j 199, j 200, j 201, j 202, j 203, j 204, j 205, j 206, j 207, j 208, j 209, j 210, j 211, j 212, j 213, j 214, j 215, j 216, j 217, j 218, j 219, j 220, j 221, j 222, j 223, j 224, j 225, j 226, j 227, j 228, j 229, j 230, j 231, j 232, j 233, j 234, j 235, j 236, j 237, j 238, j 239, j 240, j 241, j 242, j 243, j 244, j 245, j 246, j 247, j 248, j 249, j 250, j 251, j 252, j 253, j 254, j 255, j 256, j 257, j 258, j 259, j 260, j 261, j 262, j 263, j 264, j 265, j 266, j 267, j 268, j 269, j 270, j 271, j 272, j 273, j 274, j 275, j 276, j 277, j 278, j 279, j 280, j 281, j 282, j 283, j 284, j 285, j 286, j 287, j 288, j 289, j 290, j 291, j 292, j 293, j 294, j 295, j 296, j 297, j 298, j 299, j 300, j 301, j 302, j 303, j 304, j 305, j 306, j 307, j 308, j 309, j 310, j 311, j 312, j 313, j 314, j 315, j 316, j 317, j 318, j 319, j 320, j 321, j 322, j 323, j 324, j 325, j 326, j 327, j 328, j 329, j 330, j 331, j 332, j 333, j 334, j 335, j 336, j 337, j 338, j 339, j 340, j 341, j 342, j 343, j 344, j 345, j 346, j 347, j 348, j 349, j 350, j 351, j 352, j 353, j 354, j 355, j 356, j 357, j 358, j 359, j 360, j 361, j 362, j 363, j 364, j 365, j 366, j 367, j 368, j 369, j 370, j 371, j 372, j 373, j 374, j 375, j 376, j 377, j 378, j 379, j 380, j 381, j 382, j 383, j 384, j 385, j 386, j 387, j 388, j 389, j 390, j 391, j 392, j 393, j 394, j 395, j 396, j 397, j 398, j 399, j 400, j 401, j 402, j 403, j 404, j 405, j 406, j 407, j 408, j 409, j 410, j 411, j 412, j 413, j 414, j 415, j 416, j 417, j 418, j 419, j 420, j 421, j 422, j 423, j 424, j 425, j 426, j 427, j 428, j 429, j 430, j 431, j 432, j 433, j 434, j 435, j 436, j 437, j 438, j 439, j 440, j 441, j 442, j 443, j 444, j 445], []⟩ := by
 obtain ⟨⟨l⟩, m⟩ := a
 have hm' : m = [] := hm
 subst hm'
 obtain ⟨f, hf, hl⟩ := list_fn l 446 hs
 have e0 := hf 0 (by omega)
 have k0 : l[0]? = some v0 := by rw [← h0]; exact List.getElem?_toArray.symm
 rw [k0] at e0
 injection e0 with e0
 have e2 := hf 2 (by omega)
 have k2 : l[2]? = some v2 := by rw [← h2]; exact List.getElem?_toArray.symm
 rw [k2] at e2
 injection e2 with e2
 have e4 := hf 4 (by omega)
 have k4 : l[4]? = some v4 := by rw [← h4]; exact List.getElem?_toArray.symm
 rw [k4] at e4
 injection e4 with e4
 have e5 := hf 5 (by omega)
 have k5 : l[5]? = some v5 := by rw [← h5]; exact List.getElem?_toArray.symm
 rw [k5] at e5
 injection e5 with e5
 have e6 := hf 6 (by omega)
 have k6 : l[6]? = some v6 := by rw [← h6]; exact List.getElem?_toArray.symm
 rw [k6] at e6
 injection e6 with e6
 have e7 := hf 7 (by omega)
 have k7 : l[7]? = some v7 := by rw [← h7]; exact List.getElem?_toArray.symm
 rw [k7] at e7
 injection e7 with e7
 have e8 := hf 8 (by omega)
 have k8 : l[8]? = some v8 := by rw [← h8]; exact List.getElem?_toArray.symm
 rw [k8] at e8
 injection e8 with e8
 have e9 := hf 9 (by omega)
 have k9 : l[9]? = some v9 := by rw [← h9]; exact List.getElem?_toArray.symm
 rw [k9] at e9
 injection e9 with e9
 have e10 := hf 10 (by omega)
 have k10 : l[10]? = some v10 := by rw [← h10]; exact List.getElem?_toArray.symm
 rw [k10] at e10
 injection e10 with e10
 have e11 := hf 11 (by omega)
 have k11 : l[11]? = some v11 := by rw [← h11]; exact List.getElem?_toArray.symm
 rw [k11] at e11
 injection e11 with e11
 have e12 := hf 12 (by omega)
 have k12 : l[12]? = some v12 := by rw [← h12]; exact List.getElem?_toArray.symm
 rw [k12] at e12
 injection e12 with e12
 have e13 := hf 13 (by omega)
 have k13 : l[13]? = some v13 := by rw [← h13]; exact List.getElem?_toArray.symm
 rw [k13] at e13
 injection e13 with e13
 have e14 := hf 14 (by omega)
 have k14 : l[14]? = some v14 := by rw [← h14]; exact List.getElem?_toArray.symm
 rw [k14] at e14
 injection e14 with e14
 clear h0 k0
 subst e0
 clear h2 k2
 subst e2
 clear h4 k4
 subst e4
 clear h5 k5
 subst e5
 clear h6 k6
 subst e6
 clear h7 k7
 subst e7
 clear h8 k8
 subst e8
 clear h9 k9
 subst e9
 clear h10 k10
 subst e10
 clear h11 k11
 subst e11
 clear h12 k12
 subst e12
 clear h13 k13
 subst e13
 clear h14 k14
 subst e14
 exact ⟨f, by rw [hl]; rfl⟩
theorem grown_self' (W : World) (row : Option Nat) : W.grownBy W row := ⟨rfl, rfl, rfl, Nat.le_refl _, fun _ _ _ => rfl⟩
theorem Sit.clear {W : World} {base R M S X : Nat} {vs vu vf vc : Value} {s : RS} {x : It} (h : Sit W base R M S X vs vu vf vc s x) : Sit W base R M S X vs (.slice none 0 0) vf vc { s with usages := [], keeps := false } x :=
 (h.usTo (v' := .slice none 0 0) (l := []) (grown_self' W _) (Own.nil _ _ _ _) (.inl rfl)).same rfl rfl rfl rfl rfl rfl
noncomputable def code11 : Code := (Try.f13.body.bind (findR 11)).getD .skip
noncomputable def code22 : Code := restC (restC (restC (restC (restC (restC (restC code11))))))
set_option maxRecDepth 1000000 in
theorem it_22 {Q : Exit → Act → World → Prop} {W : World} {base n c R M S X : Nat} {A : Option Addr} {vs vu vf vc : Value} {s : RS} {i : Int} {x : It} {a : Act} (ha : LiveU a A n c R M S X vs vu s i x) (h : Sit W base R M S X vs vu vf vc s x) (hs : s.Fine) (hw : x.wide = true) (hok : x.ok)
  (hC : OkC Q W base A n c R M S X s i x) (hE : OkE Q W R s x) (hP : ∀ c a d v w, Q (.panic c) (a.put d v) w → Q (.panic c) a w) (K K2 : Act → World → Prop) (hK : ∀ a w', Code.wp Try.prog (restC (headC code22)) (Exit.then K2 Q) a w' → K a w') (hK2 : ∀ a w', Code.wp Try.prog (restC code22) Q a w' → K2 a w') : Code.wp Try.prog (headC (headC code22)) (Exit.then K (Exit.then K2 Q)) a W := by
 obtain ⟨j, rfl⟩ := ha
 conv => arg 2; whnf
 conv at hK => enter [a, w', 1, 2]; whnf
 conv at hK2 => enter [a, w', 1, 2]; whnf
 dsimp only
 obtain ⟨w1, w2, w3, w4, _⟩ := wide_iff hw hok
 have hXl := heap_lt h.bx
 have t0 : W.cell? ⟨X, 0, none⟩ = some (.int .u8 x.ty) := cell_heap h.bx (o := 0) rfl
 have t1 : W.cell? ⟨X, 1, none⟩ = some (.int .u8 x.tg) := cell_heap h.bx (o := 1) rfl
 have wa : IntKind.i64.wrap x.ty = x.ty := by rw [IntKind.wrap_i64]; omega
 have wb : IntKind.i64.wrap x.tg = x.tg := by rw [IntKind.wrap_i64]; omega
 have wc : IntKind.i64.wrap (x.ty * 16) = x.ty * 16 := by rw [IntKind.wrap_i64]; omega
 obtain ⟨cc, hcc⟩ : ∃ cc, x.ty * 16 + x.tg = cc := ⟨_, rfl⟩
 have wd : IntKind.i64.wrap (x.ty * 16 + x.tg) = cc := by rw [IntKind.wrap_i64]; omega
 have we : IntKind.i64.wrap cc = cc := by rw [IntKind.wrap_i64]; omega
 go_upto_region 24 with (fail)
 refine sw_24 (A := A) (n := n) (c := c) (i := i) hcc ?_ h hs hw hok ?_ ?_ ?_ (fun v hv => by cases hv) _ ?_
 ·exact frame_item rfl rfl rfl rfl rfl rfl rfl rfl rfl rfl rfl rfl rfl rfl rfl rfl
 ·intro a' W' vs' vu' vf' vc' s' hF hL hS hfr
  obtain ⟨us', rfl⟩ := hL
  dsimp only
  have t2 : W'.cell? ⟨X, 0, none⟩ = some (.int .u8 x.ty) := cell_heap hS.bx (o := 0) rfl
  have hXl' := heap_lt hS.bx
  by_cases c0 : x.ty = 0
  ·have d0 : (x.ty == 0) = true := by rw [c0]; rfl
   have d1 : decide (x.ty = 0) = true := decide_eq_true c0
   have hc : clearS s' x = { s' with usages := [], keeps := false } := by unfold clearS; rw [if_pos c0]
   clear c0
   go_wp2_with fail
   refine hC _ _ vs' (.slice none 0 0) vf' vc' s' hF ?_ (by rw [hc]; exact hS.clear) hfr
   rw [hc]
   exact frame_end rfl rfl rfl rfl rfl rfl rfl rfl rfl rfl rfl rfl
  ·have d0 : (x.ty == 0) = false := beq_false_of_ne c0
   have d1 : decide (x.ty = 0) = false := decide_eq_false c0
   have hc : clearS s' x = s' := by unfold clearS; rw [if_neg c0]
   go_wp2_with fail
   refine hC _ _ vs' vu' vf' vc' s' hF ?_ (by rw [hc]; exact hS) hfr
   rw [hc]
   exact frame_end rfl rfl rfl rfl rfl rfl rfl rfl rfl rfl rfl rfl
 ·exact fun a' W' E h1 h2 h3 h4 h5 h6 h7 => hE a' W' E h1 h2 h3 h4 h5 h6 h7
 ·exact fun c a d v w h => hP c a d v w h
 ·assumption
set_option maxRecDepth 1000000 in
theorem it_11 {Q : Exit → Act → World → Prop} {W : World} {base n c R M S X : Nat} {A : Option Addr} {vs vu vf vc : Value} {s : RS} {i : Int} {x : It} {a : Act} (ha : LiveN a A n c R M S X vs vu s i) (h : Sit W base R M S X vs vu vf vc s x) (hs : s.Fine) (hw : x.wide = true) (hok : x.ok)
  (hC : OkC Q W base A n c R M S X s i x) (hE : OkE Q W R s x) (hP : ∀ c a d v w, Q (.panic c) (a.put d v) w → Q (.panic c) a w) (K : Act → World → Prop) (hK : ∀ a w', Code.wp Try.prog (restC code11) Q a w' → K a w') : Code.wp Try.prog (headC code11) (Exit.then K Q) a W := by
 obtain ⟨us, rfl⟩ := ha
 conv => arg 2; whnf
 conv at hK => enter [a, w', 1, 2]; whnf
 dsimp only
 obtain ⟨d0, d1, d2⟩ := data_lt hw hok
 clear d2
 have hXl := heap_lt h.bx
 have hSl := heap_lt h.md.bs
 have t2 : W.cell? ⟨X, 2, none⟩ = some (.int .i64 x.size) := cell_heap h.bx (o := 2) rfl
 have t3 : W.cell? ⟨X, 3, none⟩ = some (.int .u32 x.data) := cell_heap h.bx (o := 3) rfl
 have p0 : W.cell? ⟨S, 0, none⟩ = some (.int .i64 s.g.page) := cell_heap h.md.bs (o := 0) rfl
 have hpg := hs.page
 have wx : IntKind.i64.wrap x.data = x.data := by rw [IntKind.wrap_i64]; omega
 have wp_ : IntKind.i64.wrap (s.g.page * 65536) = s.g.page * 65536 := by rw [IntKind.wrap_i64]; omega
 have wq : IntKind.i64.wrap (s.g.page * 65536 + x.data) = s.g.page * 65536 + x.data := by rw [IntKind.wrap_i64]; omega
 rcases (wide_iff hw hok).2.2.2.2 with ⟨hz, hd⟩ | ⟨hz, hd⟩ | ⟨hz, hd⟩ | hz
 ·have z1 : (x.size == 1) = false := by rw [hz]; rfl
  have z2 : (x.size == 2) = false := by rw [hz]; rfl
  have z4 : (x.size == 4) = false := by rw [hz]; rfl
  have y1 : decide (x.size = 1) = false := by rw [hz]; rfl
  have y2 : decide (x.size = 2) = false := by rw [hz]; rfl
  have y4 : decide (x.size = 4) = false := by rw [hz]; rfl
  have y5 : decide (x.size < 4) = true := by rw [hz]; rfl
  have hsg : signS x = x.data := by unfold signS; rw [if_neg (by omega), if_neg (by omega), if_neg (by omega)]; omega
  have hug : usageS s x = s.g.page * 65536 + x.data := by unfold usageS; rw [if_neg (by omega)]
  clear hz hd
  go_upto_region 22 with (fail)
  refine it_22 (s := s) ?_ h hs hw hok hC hE hP _ _ ?_ ?_
  ·unfold LiveU; rw [hsg, hug]; exact frame_u rfl rfl rfl rfl rfl rfl rfl rfl rfl rfl rfl rfl rfl rfl rfl
  all_goals assumption
 ·by_cases hn : 127 < x.data
  ·have z1 : (x.size == 1) = true := by rw [hz]; rfl
   have z2 : (x.size == 2) = false := by rw [hz]; rfl
   have z4 : (x.size == 4) = false := by rw [hz]; rfl
   have y1 : decide (x.size = 1) = true := by rw [hz]; rfl
   have y2 : decide (x.size = 2) = false := by rw [hz]; rfl
   have y4 : decide (x.size = 4) = false := by rw [hz]; rfl
   have y5 : decide (x.size < 4) = true := by rw [hz]; rfl
   have n1 : decide (127 < x.data) = true := decide_eq_true hn
   have hsg : signS x = x.data - 256 := by unfold signS; rw [if_pos hz, if_pos hn]
   have hug : usageS s x = s.g.page * 65536 + x.data := by unfold usageS; rw [if_neg (by omega)]
   have wn : IntKind.i64.wrap (x.data - 256) = x.data - 256 := by rw [IntKind.wrap_i64]; omega
   clear hz
   go_upto_region 22 with (fail)
   refine it_22 (s := s) ?_ h hs hw hok hC hE hP _ _ ?_ ?_
   ·unfold LiveU; rw [hsg, hug]; exact frame_u rfl rfl rfl rfl rfl rfl rfl rfl rfl rfl rfl rfl rfl rfl rfl
   all_goals assumption
  ·have z1 : (x.size == 1) = true := by rw [hz]; rfl
   have z2 : (x.size == 2) = false := by rw [hz]; rfl
   have z4 : (x.size == 4) = false := by rw [hz]; rfl
   have y1 : decide (x.size = 1) = true := by rw [hz]; rfl
   have y2 : decide (x.size = 2) = false := by rw [hz]; rfl
   have y4 : decide (x.size = 4) = false := by rw [hz]; rfl
   have y5 : decide (x.size < 4) = true := by rw [hz]; rfl
   have n1 : decide (127 < x.data) = false := decide_eq_false hn
   have hsg : signS x = x.data := by unfold signS; rw [if_pos hz, if_neg hn]
   have hug : usageS s x = s.g.page * 65536 + x.data := by unfold usageS; rw [if_neg (by omega)]
   clear hz
   go_upto_region 22 with (fail)
   refine it_22 (s := s) ?_ h hs hw hok hC hE hP _ _ ?_ ?_
   ·unfold LiveU; rw [hsg, hug]; exact frame_u rfl rfl rfl rfl rfl rfl rfl rfl rfl rfl rfl rfl rfl rfl rfl
   all_goals assumption
 ·by_cases hn : 32767 < x.data
  ·have z1 : (x.size == 1) = false := by rw [hz]; rfl
   have z2 : (x.size == 2) = true := by rw [hz]; rfl
   have z4 : (x.size == 4) = false := by rw [hz]; rfl
   have y1 : decide (x.size = 1) = false := by rw [hz]; rfl
   have y2 : decide (x.size = 2) = true := by rw [hz]; rfl
   have y4 : decide (x.size = 4) = false := by rw [hz]; rfl
   have y5 : decide (x.size < 4) = true := by rw [hz]; rfl
   have n1 : decide (32767 < x.data) = true := decide_eq_true hn
   have hsg : signS x = x.data - 65536 := by unfold signS; rw [if_neg (by omega), if_pos hz, if_pos hn]
   have hug : usageS s x = s.g.page * 65536 + x.data := by unfold usageS; rw [if_neg (by omega)]
   have wn : IntKind.i64.wrap (x.data - 65536) = x.data - 65536 := by rw [IntKind.wrap_i64]; omega
   clear hz
   go_upto_region 22 with (fail)
   refine it_22 (s := s) ?_ h hs hw hok hC hE hP _ _ ?_ ?_
   ·unfold LiveU; rw [hsg, hug]; exact frame_u rfl rfl rfl rfl rfl rfl rfl rfl rfl rfl rfl rfl rfl rfl rfl
   all_goals assumption
  ·have z1 : (x.size == 1) = false := by rw [hz]; rfl
   have z2 : (x.size == 2) = true := by rw [hz]; rfl
   have z4 : (x.size == 4) = false := by rw [hz]; rfl
   have y1 : decide (x.size = 1) = false := by rw [hz]; rfl
   have y2 : decide (x.size = 2) = true := by rw [hz]; rfl
   have y4 : decide (x.size = 4) = false := by rw [hz]; rfl
   have y5 : decide (x.size < 4) = true := by rw [hz]; rfl
   have n1 : decide (32767 < x.data) = false := decide_eq_false hn
   have hsg : signS x = x.data := by unfold signS; rw [if_neg (by omega), if_pos hz, if_neg hn]
   have hug : usageS s x = s.g.page * 65536 + x.data := by unfold usageS; rw [if_neg (by omega)]
   clear hz
   go_upto_region 22 with (fail)
   refine it_22 (s := s) ?_ h hs hw hok hC hE hP _ _ ?_ ?_
   ·unfold LiveU; rw [hsg, hug]; exact frame_u rfl rfl rfl rfl rfl rfl rfl rfl rfl rfl rfl rfl rfl rfl rfl
   all_goals assumption
 ·by_cases hn : 2147483647 < x.data
  ·have z1 : (x.size == 1) = false := by rw [hz]; rfl
   have z2 : (x.size == 2) = false := by rw [hz]; rfl
   have z4 : (x.size == 4) = true := by rw [hz]; rfl
   have y1 : decide (x.size = 1) = false := by rw [hz]; rfl
   have y2 : decide (x.size = 2) = false := by rw [hz]; rfl
   have y4 : decide (x.size = 4) = true := by rw [hz]; rfl
   have y5 : decide (x.size < 4) = false := by rw [hz]; rfl
   have n1 : decide (2147483647 < x.data) = true := decide_eq_true hn
   have hsg : signS x = x.data - 4294967296 := by unfold signS; rw [if_neg (by omega), if_neg (by omega), if_pos hz, if_pos hn]
   have hug : usageS s x = x.data := by unfold usageS; rw [if_pos hz]
   have wn : IntKind.i64.wrap (x.data - 4294967296) = x.data - 4294967296 := by rw [IntKind.wrap_i64]; omega
   clear hz
   go_upto_region 22 with (fail)
   refine it_22 (s := s) ?_ h hs hw hok hC hE hP _ _ ?_ ?_
   ·unfold LiveU; rw [hsg, hug]; exact frame_u rfl rfl rfl rfl rfl rfl rfl rfl rfl rfl rfl rfl rfl rfl rfl
   all_goals assumption
  ·have z1 : (x.size == 1) = false := by rw [hz]; rfl
   have z2 : (x.size == 2) = false := by rw [hz]; rfl
   have z4 : (x.size == 4) = true := by rw [hz]; rfl
   have y1 : decide (x.size = 1) = false := by rw [hz]; rfl
   have y2 : decide (x.size = 2) = false := by rw [hz]; rfl
   have y4 : decide (x.size = 4) = true := by rw [hz]; rfl
   have y5 : decide (x.size < 4) = false := by rw [hz]; rfl
   have n1 : decide (2147483647 < x.data) = false := decide_eq_false hn
   have hsg : signS x = x.data := by unfold signS; rw [if_neg (by omega), if_neg (by omega), if_pos hz, if_neg hn]
   have hug : usageS s x = x.data := by unfold usageS; rw [if_pos hz]
   clear hz
   go_upto_region 22 with (fail)
   refine it_22 (s := s) ?_ h hs hw hok hC hE hP _ _ ?_ ?_
   ·unfold LiveU; rw [hsg, hug]; exact frame_u rfl rfl rfl rfl rfl rfl rfl rfl rfl rfl rfl rfl rfl rfl rfl
   all_goals assumption
end Go.Proofs.Ytegdigfcgeoboaa
