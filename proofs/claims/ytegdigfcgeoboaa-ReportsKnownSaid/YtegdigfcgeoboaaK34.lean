/- The law of the chapter on reports, part 34: Ib Ic Id. -/
import Derived.Test.YtegdigfcgeoboaaK33
set_option maxHeartbeats 16000000
set_option linter.unusedVariables false
set_option linter.unusedSimpArgs false
set_option linter.unusedSectionVars false
namespace Go.Proofs.Ytegdigfcgeoboaa
open Go.RowKit Go.Maps
attribute [local go_sem ↓] Go.wp_at_zero Go.wp_at_succ
noncomputable def code101 : Code := (Try.f13.body.bind (findR 101)).getD .skip
noncomputable def code104 : Code := restC (restC code101)
set_option maxRecDepth 1000000 in
theorem fld_104 {Q : Exit → Act → World → Prop} {W W1 : World} {base n c R M S X F cap : Nat} {A A' : Option Addr} {vs vu vf vc : Value} {s : RS} {i : Int} {x : It} {a : Act} {b1 b2 b4 : Bool} (k least most : Int) (ha : LiveG a A n c R M S X F vs vu s i x least most) (h : Sit W base R M S X vs vu vf vc s x) (hB : Bxd W W1 F A' cap s b1 b2 b4 k (bitsS s.fields k s.g.report) s.g.size s.g.count) (hs : s.Fine) (hw : x.wide = true) (hok : x.ok)
  (hfl : Flags x b1 b2 b4) (heff : effS s x = fieldS s k x) (ho : ¬ s.opn < 0) (hsz : ¬ (s.g.size < 1 ∨ 32 < s.g.size ∨ s.g.count < 1 ∨ 256 < s.g.count ∨ 4096 < bitsS s.fields k (s.g.report % 256) + s.g.size * s.g.count ∨ 256 ≤ s.fields.length))
  (hfit : fitsS s.g.lo s.g.hi s.g.size.toNat = (decide (s.g.lo ≤ s.g.hi) && decide (least ≤ s.g.lo) && decide (s.g.hi ≤ most)))
  (hN : OkN Q W base A n c R M S X s i x) (hE : OkE Q W R s x) (K K2 : Act → World → Prop) (hK : ∀ a w', Code.wp Try.prog (restC (headC code104)) (Exit.then K2 Q) a w' → K a w') (hK2 : ∀ a w', Code.wp Try.prog (restC code104) Q a w' → K2 a w') : Code.wp Try.prog (headC (headC code104)) (Exit.then K (Exit.then K2 Q)) a W1 := by
 obtain ⟨us, rfl⟩ := ha
 conv => arg 2; whnf
 conv at hK => enter [a, w', 1, 2]; whnf
 conv at hK2 => enter [a, w', 1, 2]; whnf
 dsimp only
 have hrr : s.g.report % 256 = s.g.report := by have := hs.report; omega
 have hE' : effS s x = if ¬ (x.data % 2 = 1) ∧ (fitsS s.g.lo s.g.hi s.g.size.toNat = false ∨ s.usages = []) then (4, s) else (0, { s with fields := s.fields ++ [fieldOf s k x] }) := by
  rw [heff]; unfold fieldS; rw [if_neg ho, if_neg hsz]
 have h' := h.kept hB.kept
 have hMl := heap_lt h'.md.bm
 have hSl := heap_lt h'.md.bs
 have hXl := heap_lt h'.bx
 have hRl := heap_lt h'.br
 have hFl := heap_lt hB.box
 have hMS := h.md.low.2.2
 obtain ⟨l1, l2, l3⟩ := h.low
 have r0 : W1.cell? ⟨R, 0, none⟩ = some (.slice none 0 0) := cell_heap h'.br (o := 0) rfl
 have r1 : W1.cell? ⟨R, 1, none⟩ = some (.slice none 0 0) := cell_heap h'.br (o := 1) rfl
 have r2 : W1.cell? ⟨R, 2, none⟩ = some (.bool false) := cell_heap h'.br (o := 2) rfl
 have g0 := frozen_heap h'.br (o := 0)
 have g1 := frozen_heap h'.br (o := 1)
 have g2 := frozen_heap h'.br (o := 2)
 have p1 : W1.cell? ⟨S, 1, none⟩ = some (.int .i64 s.g.lo) := cell_heap h'.md.bs (o := 1) rfl
 have p2 : W1.cell? ⟨S, 2, none⟩ = some (.int .i64 s.g.hi) := cell_heap h'.md.bs (o := 2) rfl
 have m0 : W1.cell? ⟨M, 0, none⟩ = some vf := cell_heap h'.md.bm (o := 0) rfl
 have e0 := cell_heap hB.box (o := 0) rfl
 have e1 := cell_heap hB.box (o := 1) rfl
 have e2 := cell_heap hB.box (o := 2) rfl
 have e3 := cell_heap hB.box (o := 3) rfl
 have e4 := cell_heap hB.box (o := 4) rfl
 have e5 := cell_heap hB.box (o := 5) rfl
 have e6 := cell_heap hB.box (o := 6) rfl
 have e7 := cell_heap hB.box (o := 7) rfl
 have e8 := cell_heap hB.box (o := 8) rfl
 have e9 := cell_heap hB.box (o := 9) rfl
 have e10 := cell_heap hB.box (o := 10) rfl
 have e11 := cell_heap hB.box (o := 11) rfl
 have e12 := cell_heap hB.box (o := 12) rfl
 obtain ⟨A7, c7, rfl, hB1, hB2⟩ := h.md.us.isSlice
 obtain ⟨A5, c5, rfl, hD1, hD2⟩ := h.md.fs.isSlice
 have hBn : R < W.heap.size := by have := h.hb; omega
 have hFc : (fieldOf s k x).cellsC A' cap = [.int .u8 k, .int .u8 s.g.report, .int .i64 s.opn, .slice A' s.usages.length cap, .int .i64 s.g.lo, .int .i64 s.g.hi, .int .i64 s.g.size, .int .i64 s.g.count, .int .i64 (bitsS s.fields k s.g.report), .bool b1, .bool b2, .bool (decide (s.g.lo < 0)), .bool b4] := by
  obtain ⟨f1, f2, f3⟩ := hfl
  simp only [Fd.cellsC, fieldOf, hrr, ← f1, ← f2, ← f3]
 cases b1 with
 | true =>
  have hF : effS s x = (0, { s with fields := s.fields ++ [fieldOf s k x] }) := by rw [hE', if_neg (fun h => h.1 (by have := hfl.1; simpa using this.symm))]
  have hkW : Kept W1 (W1.alloc (.cells #[.int .u8 k, .int .u8 s.g.report, .int .i64 s.opn, .slice A' s.usages.length cap, .int .i64 s.g.lo, .int .i64 s.g.hi, .int .i64 s.g.size, .int .i64 s.g.count, .int .i64 (bitsS s.fields k s.g.report), .bool true, .bool b2, .bool (decide (s.g.lo < 0)), .bool b4] 59)) := (Below.refl _ _).alloc (Nat.le_refl _) _
  have h4 := h'.kept hkW
  have hown : Own (fdM.on (fun b => BusyM M S vs (.slice A7 s.usages.length c7) (.slice A5 s.fields.length c5) vc b ∧ b < (W1.alloc (.cells #[.int .u8 k, .int .u8 s.g.report, .int .i64 s.opn, .slice A' s.usages.length cap, .int .i64 s.g.lo, .int .i64 s.g.hi, .int .i64 s.g.size, .int .i64 s.g.count, .int .i64 (bitsS s.fields k s.g.report), .bool true, .bool b2, .bool (decide (s.g.lo < 0)), .bool b4] 59)).heap.size)) 59 base (W1.alloc (.cells #[.int .u8 k, .int .u8 s.g.report, .int .i64 s.opn, .slice A' s.usages.length cap, .int .i64 s.g.lo, .int .i64 s.g.hi, .int .i64 s.g.size, .int .i64 s.g.count, .int .i64 (bitsS s.fields k s.g.report), .bool true, .bool b2, .bool (decide (s.g.lo < 0)), .bool b4] 59)) (.slice A5 s.fields.length c5) s.fields.length s.fields := h4.md.fs.widen (fun b h1 h2 => ⟨h2, h1⟩)
  have hrel : (fdM.on (fun b => BusyM M S vs (.slice A7 s.usages.length c7) (.slice A5 s.fields.length c5) vc b ∧ b < (W1.alloc (.cells #[.int .u8 k, .int .u8 s.g.report, .int .i64 s.opn, .slice A' s.usages.length cap, .int .i64 s.g.lo, .int .i64 s.g.hi, .int .i64 s.g.size, .int .i64 s.g.count, .int .i64 (bitsS s.fields k s.g.report), .bool true, .bool b2, .bool (decide (s.g.lo < 0)), .bool b4] 59)).heap.size)).rel (W1.alloc (.cells #[.int .u8 k, .int .u8 s.g.report, .int .i64 s.opn, .slice A' s.usages.length cap, .int .i64 s.g.lo, .int .i64 s.g.hi, .int .i64 s.g.size, .int .i64 s.g.count, .int .i64 (bitsS s.fields k s.g.report), .bool true, .bool b2, .bool (decide (s.g.lo < 0)), .bool b4] 59)) (apart (W1.alloc (.cells #[.int .u8 k, .int .u8 s.g.report, .int .i64 s.opn, .slice A' s.usages.length cap, .int .i64 s.g.lo, .int .i64 s.g.hi, .int .i64 s.g.size, .int .i64 s.g.count, .int .i64 (bitsS s.fields k s.g.report), .bool true, .bool b2, .bool (decide (s.g.lo < 0)), .bool b4] 59)) (.slice A5 s.fields.length c5)) (fieldOf s k x) [.int .u8 k, .int .u8 s.g.report, .int .i64 s.opn, .slice A' s.usages.length cap, .int .i64 s.g.lo, .int .i64 s.g.hi, .int .i64 s.g.size, .int .i64 s.g.count, .int .i64 (bitsS s.fields k s.g.report), .bool true, .bool b2, .bool (decide (s.g.lo < 0)), .bool b4] := fd_rel hFc h hB hkW rfl
  obtain ⟨i1, hi1, hz0, hz1, hz2⟩ := info_parts info59
  have hn : s.fields.length < 256 := by omega
  have hbs4 : base ≤ (W1.alloc (.cells #[.int .u8 k, .int .u8 s.g.report, .int .i64 s.opn, .slice A' s.usages.length cap, .int .i64 s.g.lo, .int .i64 s.g.hi, .int .i64 s.g.size, .int .i64 s.g.count, .int .i64 (bitsS s.fields k s.g.report), .bool true, .bool b2, .bool (decide (s.g.lo < 0)), .bool b4] 59)).heap.size := h4.hb
  go_wp2_with (at_builtin; go_must (refine wpList_append_el (T := fdM.on (fun b => BusyM M S vs (.slice A7 s.usages.length c7) (.slice A5 s.fields.length c5) vc b ∧ b < (W1.alloc (.cells #[.int .u8 k, .int .u8 s.g.report, .int .i64 s.opn, .slice A' s.usages.length cap, .int .i64 s.g.lo, .int .i64 s.g.hi, .int .i64 s.g.size, .int .i64 s.g.count, .int .i64 (bitsS s.fields k s.g.report), .bool true, .bool b2, .bool (decide (s.g.lo < 0)), .bool b4] 59)).heap.size)) rfl (.tmp 410) (.tmp 412) 37 rfl base 59 i1 _ 88 Try.underlying37 hi1 hz0 hz1 hz2 rfl (show 0 < 13 by decide) _ s.fields.length s.fields (by rfl) hown W1.heap.size _ _ (fieldOf s k x) (by rfl) (heap_at _ rfl) hrel (by simp [Value.oneCell']) (by unfold maxLen; omega) (by omega) hbs4 ?_); intro g cap2 w4 hown4 hg4 hb4 hat4 hlt4; have bm4 := heap_grown hg4 h4.md.bm (fun e => h4.md.fs.not_at h4.md.low.1 e.symm); have mm1 := cell_heap bm4 (o := 0) rfl; have mf1 := frozen_heap bm4 (o := 0); have ml4 := heap_lt bm4)
  have h9 := h4.fsTo (v' := .slice (some ⟨g, 0, none⟩) (s.fields.length + 1) cap2) hg4 (by rw [List.length_append]; exact hown4) (hat4.elim (fun e => .inr (.inl e.symm)) (fun e => .inr (.inr (by rw [e]; rfl))))
  refine hN _ _ vs _ _ vc _ hF (frame_end rfl rfl rfl rfl rfl rfl rfl rfl rfl rfl rfl rfl) h9 ((((FrM.kept hB.kept h.hb).trans (FrM.kept hkW h'.hb)).trans (FrM.below hb4)).trans (FrM.setM 0 _))
 | false =>
  have hdt : ¬ x.data % 2 = 1 := by have := hfl.1; simpa using this.symm
  by_cases q1 : s.g.hi < s.g.lo
  ·have hF : effS s x = (4, s) := by rw [hE', if_pos ⟨hdt, .inl (by rw [hfit, decide_eq_false (by omega : ¬ s.g.lo ≤ s.g.hi)]; rfl)⟩]
   have d1 : decide (s.g.hi < s.g.lo) = true := decide_eq_true q1
   go_wp2_with fail
   refine hE _ _ 4 (by rw [hF]) (by decide) rfl rfl rfl ?_ ?_
   ·exact (zeroed h'.br).1
   ·exact (hB.kept.mono (Nat.le_of_lt hBn)).trans (zeroed h'.br).2
  ·have d1 : decide (s.g.hi < s.g.lo) = false := decide_eq_false q1
   by_cases q2 : s.g.lo < least
   ·have hF : effS s x = (4, s) := by rw [hE', if_pos ⟨hdt, .inl (by rw [hfit, decide_eq_false (by omega : ¬ least ≤ s.g.lo)]; simp)⟩]
    have d2 : decide (s.g.lo < least) = true := decide_eq_true q2
    go_wp2_with fail
    refine hE _ _ 4 (by rw [hF]) (by decide) rfl rfl rfl ?_ ?_
    ·exact (zeroed h'.br).1
    ·exact (hB.kept.mono (Nat.le_of_lt hBn)).trans (zeroed h'.br).2
   ·have d2 : decide (s.g.lo < least) = false := decide_eq_false q2
    by_cases q3 : most < s.g.hi
    ·have hF : effS s x = (4, s) := by rw [hE', if_pos ⟨hdt, .inl (by rw [hfit, decide_eq_false (by omega : ¬ s.g.hi ≤ most)]; simp)⟩]
     have d3 : decide (most < s.g.hi) = true := decide_eq_true q3
     go_wp2_with fail
     refine hE _ _ 4 (by rw [hF]) (by decide) rfl rfl rfl ?_ ?_
     ·exact (zeroed h'.br).1
     ·exact (hB.kept.mono (Nat.le_of_lt hBn)).trans (zeroed h'.br).2
    ·have d3 : decide (most < s.g.hi) = false := decide_eq_false q3
     by_cases q4 : s.usages.length = 0
     ·have hF : effS s x = (4, s) := by rw [hE', if_pos ⟨hdt, .inr (List.eq_nil_of_length_eq_zero q4)⟩]
      have d4 : ((s.usages.length : Int) == 0) = true := by rw [q4]; rfl
      have d5 : decide ((s.usages.length : Int) = 0) = true := decide_eq_true (by omega)
      clear q4
      go_wp2_with fail
      refine hE _ _ 4 (by rw [hF]) (by decide) rfl rfl rfl ?_ ?_
      ·exact (zeroed h'.br).1
      ·exact (hB.kept.mono (Nat.le_of_lt hBn)).trans (zeroed h'.br).2
     ·have d4 : ((s.usages.length : Int) == 0) = false := beq_false_of_ne (by omega)
      have d5 : decide ((s.usages.length : Int) = 0) = false := decide_eq_false (by omega)
      have hF : effS s x = (0, { s with fields := s.fields ++ [fieldOf s k x] }) := by
       rw [hE', if_neg]
       rintro ⟨_, e | e⟩
       ·rw [hfit, decide_eq_true (by omega : s.g.lo ≤ s.g.hi), decide_eq_true (by omega : least ≤ s.g.lo), decide_eq_true (by omega : s.g.hi ≤ most)] at e; cases e
       ·exact q4 (by rw [e]; rfl)
      have hkW : Kept W1 (W1.alloc (.cells #[.int .u8 k, .int .u8 s.g.report, .int .i64 s.opn, .slice A' s.usages.length cap, .int .i64 s.g.lo, .int .i64 s.g.hi, .int .i64 s.g.size, .int .i64 s.g.count, .int .i64 (bitsS s.fields k s.g.report), .bool false, .bool b2, .bool (decide (s.g.lo < 0)), .bool b4] 59)) := (Below.refl _ _).alloc (Nat.le_refl _) _
      have h4 := h'.kept hkW
      have hown : Own (fdM.on (fun b => BusyM M S vs (.slice A7 s.usages.length c7) (.slice A5 s.fields.length c5) vc b ∧ b < (W1.alloc (.cells #[.int .u8 k, .int .u8 s.g.report, .int .i64 s.opn, .slice A' s.usages.length cap, .int .i64 s.g.lo, .int .i64 s.g.hi, .int .i64 s.g.size, .int .i64 s.g.count, .int .i64 (bitsS s.fields k s.g.report), .bool false, .bool b2, .bool (decide (s.g.lo < 0)), .bool b4] 59)).heap.size)) 59 base (W1.alloc (.cells #[.int .u8 k, .int .u8 s.g.report, .int .i64 s.opn, .slice A' s.usages.length cap, .int .i64 s.g.lo, .int .i64 s.g.hi, .int .i64 s.g.size, .int .i64 s.g.count, .int .i64 (bitsS s.fields k s.g.report), .bool false, .bool b2, .bool (decide (s.g.lo < 0)), .bool b4] 59)) (.slice A5 s.fields.length c5) s.fields.length s.fields := h4.md.fs.widen (fun b h1 h2 => ⟨h2, h1⟩)
      have hrel : (fdM.on (fun b => BusyM M S vs (.slice A7 s.usages.length c7) (.slice A5 s.fields.length c5) vc b ∧ b < (W1.alloc (.cells #[.int .u8 k, .int .u8 s.g.report, .int .i64 s.opn, .slice A' s.usages.length cap, .int .i64 s.g.lo, .int .i64 s.g.hi, .int .i64 s.g.size, .int .i64 s.g.count, .int .i64 (bitsS s.fields k s.g.report), .bool false, .bool b2, .bool (decide (s.g.lo < 0)), .bool b4] 59)).heap.size)).rel (W1.alloc (.cells #[.int .u8 k, .int .u8 s.g.report, .int .i64 s.opn, .slice A' s.usages.length cap, .int .i64 s.g.lo, .int .i64 s.g.hi, .int .i64 s.g.size, .int .i64 s.g.count, .int .i64 (bitsS s.fields k s.g.report), .bool false, .bool b2, .bool (decide (s.g.lo < 0)), .bool b4] 59)) (apart (W1.alloc (.cells #[.int .u8 k, .int .u8 s.g.report, .int .i64 s.opn, .slice A' s.usages.length cap, .int .i64 s.g.lo, .int .i64 s.g.hi, .int .i64 s.g.size, .int .i64 s.g.count, .int .i64 (bitsS s.fields k s.g.report), .bool false, .bool b2, .bool (decide (s.g.lo < 0)), .bool b4] 59)) (.slice A5 s.fields.length c5)) (fieldOf s k x) [.int .u8 k, .int .u8 s.g.report, .int .i64 s.opn, .slice A' s.usages.length cap, .int .i64 s.g.lo, .int .i64 s.g.hi, .int .i64 s.g.size, .int .i64 s.g.count, .int .i64 (bitsS s.fields k s.g.report), .bool false, .bool b2, .bool (decide (s.g.lo < 0)), .bool b4] := fd_rel hFc h hB hkW rfl
      obtain ⟨i1, hi1, hz0, hz1, hz2⟩ := info_parts info59
      have hn : s.fields.length < 256 := by omega
      have hbs4 : base ≤ (W1.alloc (.cells #[.int .u8 k, .int .u8 s.g.report, .int .i64 s.opn, .slice A' s.usages.length cap, .int .i64 s.g.lo, .int .i64 s.g.hi, .int .i64 s.g.size, .int .i64 s.g.count, .int .i64 (bitsS s.fields k s.g.report), .bool false, .bool b2, .bool (decide (s.g.lo < 0)), .bool b4] 59)).heap.size := h4.hb
      go_wp2_with (at_builtin; go_must (refine wpList_append_el (T := fdM.on (fun b => BusyM M S vs (.slice A7 s.usages.length c7) (.slice A5 s.fields.length c5) vc b ∧ b < (W1.alloc (.cells #[.int .u8 k, .int .u8 s.g.report, .int .i64 s.opn, .slice A' s.usages.length cap, .int .i64 s.g.lo, .int .i64 s.g.hi, .int .i64 s.g.size, .int .i64 s.g.count, .int .i64 (bitsS s.fields k s.g.report), .bool false, .bool b2, .bool (decide (s.g.lo < 0)), .bool b4] 59)).heap.size)) rfl (.tmp 410) (.tmp 412) 37 rfl base 59 i1 _ 88 Try.underlying37 hi1 hz0 hz1 hz2 rfl (show 0 < 13 by decide) _ s.fields.length s.fields (by rfl) hown W1.heap.size _ _ (fieldOf s k x) (by rfl) (heap_at _ rfl) hrel (by simp [Value.oneCell']) (by unfold maxLen; omega) (by omega) hbs4 ?_); intro g cap2 w4 hown4 hg4 hb4 hat4 hlt4; have bm4 := heap_grown hg4 h4.md.bm (fun e => h4.md.fs.not_at h4.md.low.1 e.symm); have mm1 := cell_heap bm4 (o := 0) rfl; have mf1 := frozen_heap bm4 (o := 0); have ml4 := heap_lt bm4)
      have h9 := h4.fsTo (v' := .slice (some ⟨g, 0, none⟩) (s.fields.length + 1) cap2) hg4 (by rw [List.length_append]; exact hown4) (hat4.elim (fun e => .inr (.inl e.symm)) (fun e => .inr (.inr (by rw [e]; rfl))))
      refine hN _ _ vs _ _ vc _ hF (frame_end rfl rfl rfl rfl rfl rfl rfl rfl rfl rfl rfl rfl) h9 ((((FrM.kept hB.kept h.hb).trans (FrM.kept hkW h'.hb)).trans (FrM.below hb4)).trans (FrM.setM 0 _))
set_option maxRecDepth 1000000 in
theorem fld_101 {Q : Exit → Act → World → Prop} {W W1 : World} {base n c R M S X F cap : Nat} {A A' : Option Addr} {vs vu vf vc : Value} {s : RS} {i : Int} {x : It} {a : Act} {b1 b2 b4 : Bool} (k : Int) (ha : LiveF a A n c R M S X F vs vu s i x) (h : Sit W base R M S X vs vu vf vc s x) (hB : Bxd W W1 F A' cap s b1 b2 b4 k (bitsS s.fields k s.g.report) s.g.size s.g.count) (hs : s.Fine) (hw : x.wide = true) (hok : x.ok)
  (hfl : Flags x b1 b2 b4) (heff : effS s x = fieldS s k x) (ho : ¬ s.opn < 0)
  (hsz : ¬ (s.g.size < 1 ∨ 32 < s.g.size ∨ s.g.count < 1 ∨ 256 < s.g.count ∨ 4096 < bitsS s.fields k (s.g.report % 256) + s.g.size * s.g.count ∨ 256 ≤ s.fields.length))
  (hN : OkN Q W base A n c R M S X s i x) (hE : OkE Q W R s x) (hP : ∀ c a d v w, Q (.panic c) (a.put d v) w → Q (.panic c) a w) (K : Act → World → Prop) (hK : ∀ a w', Code.wp Try.prog (restC code101) Q a w' → K a w') : Code.wp Try.prog (headC code101) (Exit.then K Q) a W1 := by
 obtain ⟨us, rfl⟩ := ha
 conv => arg 2; whnf
 conv at hK => enter [a, w', 1, 2]; whnf
 dsimp only
 have h' := h.kept hB.kept
 have hMl := heap_lt h'.md.bm
 have hSl := heap_lt h'.md.bs
 have hXl := heap_lt h'.bx
 have hRl := heap_lt h'.br
 have hFl := heap_lt hB.box
 have hMS := h.md.low.2.2
 obtain ⟨l1, l2, l3⟩ := h.low
 have hBn : R < W.heap.size := by have := h.hb; omega
 have p1 : W1.cell? ⟨S, 1, none⟩ = some (.int .i64 s.g.lo) := cell_heap h'.md.bs (o := 1) rfl
 have q1 : 1 ≤ s.g.size := by omega
 have q2 : s.g.size ≤ 32 := by omega
 obtain ⟨N, hn⟩ : ∃ N : Nat, s.g.size = (N : Int) := ⟨s.g.size.toNat, by omega⟩
 have hn2 : s.g.size.toNat = N := by omega
 have p3 : W1.cell? ⟨S, 3, none⟩ = some (.int .i64 (N : Int)) := by rw [← hn]; exact cell_heap h'.md.bs (o := 3) rfl
 rw [hn] at q1 q2
 obtain ⟨z0, z1⟩ := two_pow N (by omega)
 obtain ⟨y0, y1⟩ := two_pow (N - 1) (by omega)
 have e1 : ((N : Int) - 1).toNat = N - 1 := by omega
 have hn0 : (0 : Int) ≤ (N : Int) := by omega
 have hn1 : (0 : Int) ≤ (N : Int) - 1 := by omega
 have w1 : IntKind.i64.wrap (2 ^ N) = 2 ^ N := by rw [IntKind.wrap_i64]; omega
 have w2 : IntKind.i64.wrap (2 ^ N - 1) = 2 ^ N - 1 := by rw [IntKind.wrap_i64]; omega
 have w3 : IntKind.i64.wrap (2 ^ (N - 1)) = 2 ^ (N - 1) := by rw [IntKind.wrap_i64]; omega
 have w4 : IntKind.i64.wrap (2 ^ (N - 1) - 1) = 2 ^ (N - 1) - 1 := by rw [IntKind.wrap_i64]; omega
 have w5 : IntKind.i64.wrap (-2 ^ (N - 1)) = -2 ^ (N - 1) := by rw [IntKind.wrap_i64]; omega
 have w6 : IntKind.i64.wrap (-1 * 2 ^ (N - 1)) = -2 ^ (N - 1) := by rw [IntKind.wrap_i64]; omega
 have w7 : IntKind.i64.wrap ((N : Int) - 1) = (N : Int) - 1 := by rw [IntKind.wrap_i64]; omega
 by_cases c : s.g.lo < 0
 ·have dlo : decide (s.g.lo < 0) = true := decide_eq_true c
  have hfit : fitsS s.g.lo s.g.hi s.g.size.toNat = (decide (s.g.lo ≤ s.g.hi) && decide (-2 ^ (N - 1) ≤ s.g.lo) && decide (s.g.hi ≤ 2 ^ (N - 1) - 1)) := by
   rw [hn2]; unfold fitsS; rw [if_pos c]
  have Hfit := hide hfit
  have Hsz := hide hsz
  have Heff := hide heff
  clear hfit hsz heff
  go_quiet (fail)
  go_upto_region 103 with (fail)
  go_quiet (fail)
  go_upto_region 104 with (fail)
  refine fld_104 k (-2 ^ (N - 1)) (2 ^ (N - 1) - 1) (frame_g rfl rfl rfl rfl rfl rfl rfl rfl rfl rfl rfl rfl rfl rfl rfl rfl) h (hB.on (by repeat' first | exact Below.refl _ _ | refine below_drewN ?_ _)) hs hw hok hfl Heff.out ho Hsz.out Hfit.out hN hE _ _ ?_ ?_
  all_goals assumption
 ·have dlo : decide (s.g.lo < 0) = false := decide_eq_false c
  have hfit : fitsS s.g.lo s.g.hi s.g.size.toNat = (decide (s.g.lo ≤ s.g.hi) && decide (0 ≤ s.g.lo) && decide (s.g.hi ≤ 2 ^ N - 1)) := by
   rw [hn2]; unfold fitsS; rw [if_neg c]
  have Hfit := hide hfit
  have Hsz := hide hsz
  have Heff := hide heff
  clear hfit hsz heff
  go_quiet (fail)
  go_upto_region 104 with (fail)
  refine fld_104 k (0) (2 ^ N - 1) (frame_g rfl rfl rfl rfl rfl rfl rfl rfl rfl rfl rfl rfl rfl rfl rfl rfl) h (hB.on (by repeat' first | exact Below.refl _ _ | refine below_drewN ?_ _)) hs hw hok hfl Heff.out ho Hsz.out Hfit.out hN hE _ _ ?_ ?_
  all_goals assumption
noncomputable def code87 : Code := (Try.f13.body.bind (findR 87)).getD .skip
noncomputable def code88 : Code := restC code87
noncomputable def code90 : Code := restC code88
noncomputable def code92 : Code := restC code90
noncomputable def code97 : Code := restC code92
set_option maxRecDepth 1000000 in
theorem fld_97 {Q : Exit → Act → World → Prop} {W W1 : World} {base n c R M S X F cap : Nat} {A A' : Option Addr} {vs vu vf vc : Value} {s : RS} {i : Int} {x : It} {a : Act} {b1 b2 b4 : Bool} (k : Int) (ha : LiveF a A n c R M S X F vs vu s i x) (h : Sit W base R M S X vs vu vf vc s x) (hB : Bxd W W1 F A' cap s b1 b2 b4 k (bitsS s.fields k s.g.report) 0 0) (hs : s.Fine) (hw : x.wide = true) (hok : x.ok)
  (hfl : Flags x b1 b2 b4) (heff : effS s x = fieldS s k x) (ho : ¬ s.opn < 0)
  (hN : OkN Q W base A n c R M S X s i x) (hE : OkE Q W R s x) (hP : ∀ c a d v w, Q (.panic c) (a.put d v) w → Q (.panic c) a w) (K K2 : Act → World → Prop) (hK : ∀ a w', Code.wp Try.prog (restC (headC code97)) (Exit.then K2 Q) a w' → K a w') (hK2 : ∀ a w', Code.wp Try.prog (restC code97) Q a w' → K2 a w') : Code.wp Try.prog (headC (headC code97)) (Exit.then K (Exit.then K2 Q)) a W1 := by
 obtain ⟨us, rfl⟩ := ha
 conv => arg 2; whnf
 conv at hK => enter [a, w', 1, 2]; whnf
 conv at hK2 => enter [a, w', 1, 2]; whnf
 dsimp only
 have h' := h.kept hB.kept
 have hMl := heap_lt h'.md.bm
 have hSl := heap_lt h'.md.bs
 have hXl := heap_lt h'.bx
 have hRl := heap_lt h'.br
 have hFl := heap_lt hB.box
 have hMS := h.md.low.2.2
 obtain ⟨l1, l2, l3⟩ := h.low
 have hBn : R < W.heap.size := by have := h.hb; omega
 have r0 : W1.cell? ⟨R, 0, none⟩ = some (.slice none 0 0) := cell_heap h'.br (o := 0) rfl
 have r1 : W1.cell? ⟨R, 1, none⟩ = some (.slice none 0 0) := cell_heap h'.br (o := 1) rfl
 have r2 : W1.cell? ⟨R, 2, none⟩ = some (.bool false) := cell_heap h'.br (o := 2) rfl
 have fr0 := frozen_heap h'.br (o := 0)
 have fr1 := frozen_heap h'.br (o := 1)
 have fr2 := frozen_heap h'.br (o := 2)
 have p3 : W1.cell? ⟨S, 3, none⟩ = some (.int .i64 s.g.size) := cell_heap h'.md.bs (o := 3) rfl
 have p4 : W1.cell? ⟨S, 4, none⟩ = some (.int .i64 s.g.count) := cell_heap h'.md.bs (o := 4) rfl
 have m0 : W1.cell? ⟨M, 0, none⟩ = some vf := cell_heap h'.md.bm (o := 0) rfl
 have hrr : s.g.report % 256 = s.g.report := by have := hs.report; omega
 have e8 : W1.cell? ⟨F, 8, none⟩ = some (.int .i64 (bitsS s.fields k s.g.report)) := cell_heap hB.box (o := 8) rfl
 have x6 := frozen_heap hB.box (o := 6)
 have x7 := frozen_heap hB.box (o := 7)
 have e6 : W1.cell? ⟨F, 6, none⟩ = some (.int .i64 0) := cell_heap hB.box (o := 6) rfl
 have e7 : W1.cell? ⟨F, 7, none⟩ = some (.int .i64 0) := cell_heap hB.box (o := 7) rfl
 obtain ⟨A5, c5, rfl, hD1, hD2⟩ := h.md.fs.isSlice
 by_cases g0 : s.g.size < 1
 ·have hF : effS s x = (3, s) := by rw [heff]; unfold fieldS; rw [if_neg ho, hrr, if_pos (.inl g0)]
  have d0 : decide (s.g.size < 1) = true := decide_eq_true g0
  clear heff
  go_wp2_with fail
  refine hE _ _ 3 (by rw [hF]) (by decide) rfl rfl rfl ?_ ?_
  ·exact (zeroed h'.br).1
  ·exact (hB.kept.mono (Nat.le_of_lt hBn)).trans (zeroed h'.br).2
 have d0 : decide (s.g.size < 1) = false := decide_eq_false g0
 by_cases g1 : 32 < s.g.size
 ·have hF : effS s x = (3, s) := by rw [heff]; unfold fieldS; rw [if_neg ho, hrr, if_pos (.inr (.inl g1))]
  have d1 : decide (32 < s.g.size) = true := decide_eq_true g1
  clear heff
  go_wp2_with fail
  refine hE _ _ 3 (by rw [hF]) (by decide) rfl rfl rfl ?_ ?_
  ·exact (zeroed h'.br).1
  ·exact (hB.kept.mono (Nat.le_of_lt hBn)).trans (zeroed h'.br).2
 have d1 : decide (32 < s.g.size) = false := decide_eq_false g1
 by_cases g2 : s.g.count < 1
 ·have hF : effS s x = (3, s) := by rw [heff]; unfold fieldS; rw [if_neg ho, hrr, if_pos (.inr (.inr (.inl g2)))]
  have d2 : decide (s.g.count < 1) = true := decide_eq_true g2
  clear heff
  go_wp2_with fail
  refine hE _ _ 3 (by rw [hF]) (by decide) rfl rfl rfl ?_ ?_
  ·exact (zeroed h'.br).1
  ·exact (hB.kept.mono (Nat.le_of_lt hBn)).trans (zeroed h'.br).2
 have d2 : decide (s.g.count < 1) = false := decide_eq_false g2
 by_cases g3 : 256 < s.g.count
 ·have hF : effS s x = (3, s) := by rw [heff]; unfold fieldS; rw [if_neg ho, hrr, if_pos (.inr (.inr (.inr (.inl g3))))]
  have d3 : decide (256 < s.g.count) = true := decide_eq_true g3
  clear heff
  go_wp2_with fail
  refine hE _ _ 3 (by rw [hF]) (by decide) rfl rfl rfl ?_ ?_
  ·exact (zeroed h'.br).1
  ·exact (hB.kept.mono (Nat.le_of_lt hBn)).trans (zeroed h'.br).2
 have d3 : decide (256 < s.g.count) = false := decide_eq_false g3
 have hm1 : s.g.size * s.g.count ≤ 32 * s.g.count := Int.mul_le_mul_of_nonneg_right (by omega) (by omega)
 have hm2 : 1 * s.g.count ≤ s.g.size * s.g.count := Int.mul_le_mul_of_nonneg_right (by omega) (by omega)
 have hb := hs.bits k s.g.report
 have hw1 : IntKind.i64.wrap (s.g.size * s.g.count) = s.g.size * s.g.count := by rw [IntKind.wrap_i64]; omega
 have hw2 : IntKind.i64.wrap (bitsS s.fields k s.g.report + s.g.size * s.g.count) = bitsS s.fields k s.g.report + s.g.size * s.g.count := by rw [IntKind.wrap_i64]; omega
 by_cases g4 : 4096 < bitsS s.fields k s.g.report + s.g.size * s.g.count
 ·have hF : effS s x = (3, s) := by rw [heff]; unfold fieldS; rw [if_neg ho, hrr, if_pos (.inr (.inr (.inr (.inr (.inl g4)))))]
  have d4 : decide (4096 < bitsS s.fields k s.g.report + s.g.size * s.g.count) = true := decide_eq_true g4
  clear heff
  go_wp2_with fail
  refine hE _ _ 3 (by rw [hF]) (by decide) rfl rfl rfl ?_ ?_
  ·exact (zeroed h'.br).1
  ·exact (hB.kept.mono (Nat.le_of_lt hBn)).trans (zeroed h'.br).2
 have d4 : decide (4096 < bitsS s.fields k s.g.report + s.g.size * s.g.count) = false := decide_eq_false g4
 by_cases g5 : 256 ≤ s.fields.length
 ·have hF : effS s x = (3, s) := by rw [heff]; unfold fieldS; rw [if_neg ho, hrr, if_pos (.inr (.inr (.inr (.inr (.inr (g5))))))]
  have d5 : ((s.fields.length : Int) == 256) = true := by rw [beq_iff_eq]; have := hs.fields.1; omega
  have d6 : decide ((s.fields.length : Int) = 256) = true := decide_eq_true (by have := hs.fields.1; omega)
  clear heff
  go_wp2_with fail
  refine hE _ _ 3 (by rw [hF]) (by decide) rfl rfl rfl ?_ ?_
  ·exact (zeroed h'.br).1
  ·exact (hB.kept.mono (Nat.le_of_lt hBn)).trans (zeroed h'.br).2
 have d5 : ((s.fields.length : Int) == 256) = false := beq_false_of_ne (by omega)
 have hsz : ¬ (s.g.size < 1 ∨ 32 < s.g.size ∨ s.g.count < 1 ∨ 256 < s.g.count ∨ 4096 < bitsS s.fields k (s.g.report % 256) + s.g.size * s.g.count ∨ 256 ≤ s.fields.length) := by
  rw [hrr]
  rintro (e | e | e | e | e | e)
  ·exact g0 e
  ·exact g1 e
  ·exact g2 e
  ·exact g3 e
  ·exact g4 e
  ·exact g5 e
 have hSF : ¬ S = F := by have := hB.new; have := h.md.low.2.1; have := h.hb; omega
 go_upto_region 101 with (fail)
 refine fld_101 k (frame_f rfl rfl rfl rfl rfl rfl rfl rfl rfl rfl rfl rfl rfl rfl) h ((hB.set 6 _ rfl).set 7 _ rfl) hs hw hok hfl heff ho hsz hN hE hP _ ?_
 assumption
end Go.Proofs.Ytegdigfcgeoboaa
