/- The law of the chapter on reports, part 18: Wd. -/
import Derived.Test.YtegdigfcgeoboaaK17
set_option maxHeartbeats 16000000
set_option linter.unusedVariables false
set_option linter.unusedSimpArgs false
set_option linter.unusedSectionVars false
namespace Go.Proofs.Ytegdigfcgeoboaa
open Go.RowKit
attribute [local go_sem ↓] Go.wp_at_zero Go.wp_at_succ
variable {u0 u1 u2 u3 u7 u8 u9 gI kI gJ jY eG eH u16 eE eF dX dY dZ eA eB eC eD eI eJ eK eL eM eN u32 eO eP iN iO iP iQ iR fK iS iT iU iV iW iX gK gL gM gN gO gP gQ gR gS gT iY iZ jA jB jC jD jE u64 jF jG jH jJ jK jL jM jN jO jP jQ jR jZ kE kF kG kH jS jT jU jV jW jX kJ kK kM kN kO kP kQ kR kS kT kU kV aK aG aA aB aC aD aE aF aH aI aJ : Value}
def findQ (k : Nat) : Code → Option Code
 | .seq a c => match a with
  | .region i o b => if i = k then some (.seq (.region i o b) c) else findQ k c
  | a => (findQ k a).orElse fun _ => findQ k c
 | .block _ c => findQ k c
 | .scope c => findQ k c
 | .loop c => findQ k c
 | .cond _ c e => (findQ k c).orElse fun _ => findQ k e
 | .region i o b => if i = k then some (.region i o b) else none
 | _ => none
theorem ownBlock_heap34 {α : Type} {t : Ty α} {e : TypeId} {w : World} {base n g : Nat} {v : Value} {xs : List α} (h : Own t e base w v n xs) (hg : v.ownBlock = some g) : ∃ cap cur, v = .slice (some ⟨g, 0, none⟩) n cap ∧ w.heap[g]? = some (.cells cur e (0, 0)) := by
 obtain ⟨_, cells, ⟨_, h2⟩, _⟩ := h
 rcases h2 with ⟨rfl, _⟩ | ⟨g', cap, cur, rfl, _, hh, _⟩
 ·cases hg
 ·obtain rfl : g' = g := by simpa [Value.ownBlock] using hg
  exact ⟨cap, cur, rfl, hh⟩
theorem own_type_ne {α : Type} {t : Ty α} {e e' : TypeId} {w : World} {base n BB : Nat} {v : Value} {xs : List α} {cs : Array Value} {fr : Nat × Nat} (h : Own t e base w v n xs) (hB : w.heap[BB]? = some (.cells cs e' fr)) (hne : e ≠ e') : v.ownBlock ≠ some BB := fun hg => by
 obtain ⟨_, cur, _, hh⟩ := ownBlock_heap34 h hg
 rw [hB] at hh
 injection hh with hh
 injection hh with _ h2 _
 exact hne h2.symm
theorem Own.sameB {α : Type} {t : Ty α} {e : TypeId} {w w' : World} {base n : Nat} {v : Value} {xs : List α} (h : Own t e base w v n xs) (ht : Flat t) (hb : ∀ k, v.ownBlock = some k → w'.heap[k]? = w.heap[k]?) : Own t e base w' v n xs := by
 obtain ⟨h1, cells, ⟨h2, h2'⟩, h3⟩ := h
 refine ⟨h1, cells, ⟨h2, ?_⟩, fun i x hx => ht (h3 i x hx)⟩
 rcases h2' with h | ⟨g, cap, cur, hv, hg, hh, r⟩
 ·exact .inl h
 ·exact .inr ⟨g, cap, cur, hv, hg, by rw [hb g (by rw [hv]; rfl)]; exact hh, r⟩
def PF.cells (f : PF) : List Value := [.int .u8 f.kind, .int .u8 f.report, .int .u8 f.first, .int .u8 f.many, .int .i16 f.lo, .int .u16 f.more, .int .u8 f.count, .int .u8 f.flags]
def pfT : Ty PF := Ty.flat 8 PF.cells PF.ok (fun _ => rfl)
structure PdIs (w : World) (x : PD) (A : Option Addr) (cap : Nat) : Prop where
 len : x.fields.length ≤ cap
 cap : cap ≤ maxLen
 sl : Sl pfT w (low w.heap.size) A x.fields.length x.fields
theorem PdIs.kept {w w' : World} {x : PD} {A : Option Addr} {cap : Nat} (h : PdIs w x A cap) (hk : Kept w w') : PdIs w' x A cap := ⟨h.len, h.cap, h.sl.kept hk⟩
def Fd.cellsAt (f : Fd) (v : Value) : Array Value := #[.int .u8 f.kind, .int .u8 f.report, .int .i64 f.parent, v, .int .i64 f.lo, .int .i64 f.hi, .int .i64 f.size, .int .i64 f.count, .int .i64 f.pos, .bool f.const, .bool f.array, .bool f.signed, .bool f.rel]
theorem wrap8 {z : Int} (h0 : 0 ≤ z) (h1 : z < 256) : IntKind.u8.wrap z = z := by
 have : IntKind.u8.wrap z = z % 256 := by simp [IntKind.wrap, IntKind.signed, IntKind.bits]
 omega
theorem bits1_fin : ∀ z : Fin 256, bits .and .u8 (z.val : Int) 1 = (z.val : Int) % 2 := by decide +kernel
theorem bits2_fin : ∀ z : Fin 256, bits .and .u8 (z.val : Int) 2 = 2 * ((z.val : Int) / 2 % 2) := by decide +kernel
theorem bits4_fin : ∀ z : Fin 256, bits .and .u8 (z.val : Int) 4 = 4 * ((z.val : Int) / 4 % 2) := by decide +kernel
theorem bits8_fin : ∀ z : Fin 256, bits .and .u8 (z.val : Int) 8 = 8 * ((z.val : Int) / 8 % 2) := by decide +kernel
theorem bits16_fin : ∀ z : Fin 256, bits .and .u8 (z.val : Int) 16 = 16 * ((z.val : Int) / 16 % 2) := by decide +kernel
theorem bits7_fin : ∀ z : Fin 256, bits .and .u8 (z.val : Int) 7 = (z.val : Int) % 8 := by decide +kernel
theorem bitsor_fin : ∀ z : Fin 256, bits .or .u32 458752 (z.val : Int) = 458752 + (z.val : Int) := by decide +kernel
section
variable {z : Int}
theorem fin8 (h : u8k z) : ∃ n : Fin 256, z = (n.val : Int) := by
 obtain ⟨n, rfl⟩ := Int.eq_ofNat_of_zero_le h.1
 have := h.2
 exact ⟨⟨n, by omega⟩, rfl⟩
theorem bits1 (h : u8k z) : bits .and .u8 z 1 = z % 2 := by obtain ⟨n, rfl⟩ := fin8 h; exact bits1_fin n
theorem bits2 (h : u8k z) : bits .and .u8 z 2 = 2 * (z / 2 % 2) := by obtain ⟨n, rfl⟩ := fin8 h; exact bits2_fin n
theorem bits4 (h : u8k z) : bits .and .u8 z 4 = 4 * (z / 4 % 2) := by obtain ⟨n, rfl⟩ := fin8 h; exact bits4_fin n
theorem bits8 (h : u8k z) : bits .and .u8 z 8 = 8 * (z / 8 % 2) := by obtain ⟨n, rfl⟩ := fin8 h; exact bits8_fin n
theorem bits16 (h : u8k z) : bits .and .u8 z 16 = 16 * (z / 16 % 2) := by obtain ⟨n, rfl⟩ := fin8 h; exact bits16_fin n
theorem bits7 (h : u8k z) : bits .and .u8 z 7 = z % 8 := by obtain ⟨n, rfl⟩ := fin8 h; exact bits7_fin n
theorem bitsor (h : u8k z) : bits .or .u32 458752 z = 458752 + z := by obtain ⟨n, rfl⟩ := fin8 h; exact bitsor_fin n
end
noncomputable def code5w : Code := (Try.f33.body.bind (findQ 5)).getD .skip
noncomputable def code9w : Code := (Try.f33.body.bind (fromR 9)).getD .skip
set_option maxRecDepth 1000000 in
theorem dfield_tail {w W : World} {RB QB FB : Nat} {f : PF} {F : Fd} {kd rp' hi' ct : Int} {cst arr sg rel : Bool} (hR : W.heap[RB]? = some (.cells #[.int .u8 0, .int .u8 0, .int .i64 0, .slice none 0 0, .int .i64 0, .int .i64 0, .int .i64 0, .int .i64 0, .int .i64 0, .bool false, .bool false, .bool false, .bool false] 59 (0, 0))) (hP : W.heap[QB]? = some (.cells #[.int .u8 f.kind, .int .u8 f.report, .int .u8 f.first, .int .u8 f.many, .int .i16 f.lo, .int .u16 f.more, .int .u8 f.count, .int .u8 f.flags] 65 (0, 0))) (hFb : W.heap[FB]? = some (.cells #[.int .u8 kd, .int .u8 rp', .int .i64 0, .slice none 0 0, .int .i64 f.lo, .int .i64 hi', .int .i64 0, .int .i64 ct, .int .i64 0, .bool cst, .bool arr, .bool sg, .bool rel] 59 (0, 0)))
  (hlt : w.heap.size ≤ RB ∧ RB < FB ∧ QB < FB ∧ RB ≠ QB) (hk : Kept w W) (hf8 : u8k f.first) (hm : 0 ≤ f.many ∧ f.many < 256) (hmm : f.many.tmod 6 = ((f.many % 6).toNat : Int)) (hlo : -32768 ≤ f.lo ∧ f.lo ≤ 32767) (hhi : -32768 ≤ hi' ∧ hi' ≤ 98302) (h18 : badSz f.lo hi' 18 = false)
  (hF : ∀ v, F.cellsAt v = #[.int .u8 kd, .int .u8 rp', .int .i64 0, v, .int .i64 f.lo, .int .i64 hi', .int .i64 (sizeF f.lo hi' : Int), .int .i64 ct, .int .i64 0, .bool cst, .bool arr, .bool sg, .bool rel])
  (K K2 : Act → World → Prop) (hK : ∀ a w', Code.wp Try.prog (restC code5w) (Exit.then K2 (bodyPost Try.prog Try.f33 fun e w' => (∃ U c, e = .returned (.agg (F.cellsAt (.slice U (manyF f) c))) ∧ Own u32T 27 w.heap.size w' (.slice U (manyF f) c) (manyF f) (usagesF f)) ∧ Kept w w')) a w' → K a w') (hK2 : ∀ a w', Code.wp Try.prog code9w (bodyPost Try.prog Try.f33 fun e w' => (∃ U c, e = .returned (.agg (F.cellsAt (.slice U (manyF f) c))) ∧ Own u32T 27 w.heap.size w' (.slice U (manyF f) c) (manyF f) (usagesF f)) ∧ Kept w w') a w' → K2 a w') :
  Code.wp Try.prog (headC code5w) (Exit.then K (Exit.then K2 (bodyPost Try.prog Try.f33 fun e w' => (∃ U c, e = .returned (.agg (F.cellsAt (.slice U (manyF f) c))) ∧ Own u32T 27 w.heap.size w' (.slice U (manyF f) c) (manyF f) (usagesF f)) ∧ Kept w w'))) ⟨#[u0, u1, u2, u3, .pointer (some ⟨RB, 0, none⟩), .pointer (some ⟨QB, 0, none⟩), .pointer (some ⟨FB, 0, none⟩), u7, u8, u9, gI, kI, gJ, jY, eG, eH, u16, eE, eF, dX, dY, dZ, eA, eB, eC, eD, eI, eJ, eK, eL, eM, eN, u32, eO, eP, iN, iO, iP, iQ, iR, fK, iS, iT, iU, iV, iW, iX, gK, gL, gM, gN, gO, gP, gQ, gR, gS, gT, iY, iZ, jA, jB, jC, jD, jE, u64, jF, jG, jH, jJ, jK, jL, jM, jN, jO, jP, jQ, jR, jZ, kE, kF, kG, kH, jS, jT, jU, jV, jW, jX, kJ, kK, kM, kN, kO, kP, kQ, kR, kS, kT, kU, kV, aK, aG, aA, aB, aC, aD, aE, aF, aH, aI, aJ], []⟩ W := by
 obtain ⟨i7, hi7, h70, h71, h72⟩ := info_parts info27
 obtain ⟨mm, hmd⟩ : ∃ mm, (f.many % 6).toNat = mm := ⟨_, rfl⟩
 have hmany : manyF f = mm + 1 := by rw [← hmd]; rfl
 have hmm6 : mm ≤ 5 := by omega
 rw [hmd] at hmm
 have huf : usagesF f = (List.range (mm + 1)).map fun (q : Nat) => 458752 + f.first + (q : Int) := by unfold usagesF; rw [hmany]
 rw [hmany, huf] at hK hK2 ⊢
 obtain ⟨UL, hUL⟩ : ∃ UL, ((List.range (mm + 1)).map fun (q : Nat) => 458752 + f.first + (q : Int)) = UL := ⟨_, rfl⟩
 rw [hUL] at hK hK2 ⊢
 have HUL := hide hUL
 clear hUL
 have hor := bitsor hf8
 obtain ⟨f0, f1⟩ := hf8
 obtain ⟨l0, l1, l2, l3⟩ := hlt
 have hwm : IntKind.i64.wrap (mm : Int) = (mm : Int) := by rw [IntKind.wrap_i64]; omega
 have HR := hide hR
 have HP := hide hP
 have HFb := hide hFb
 have Hk := hide hk
 have HF := hide hF
 have Huf := hide huf
 clear hR hP hFb hk hF hmd hm hmany huf
 conv => arg 2; whnf
 conv at hK => enter [a, w', 1, 2]; whnf
 conv at hK2 => enter [a, w', 1, 2]; whnf
 go_wp2_with fail
 go_loopg [7] (mm + 1) (fun g s7 wr => ∃ (k : Nat) (v : Value), k + g = mm + 1 ∧ s7 = .int .i64 (k : Int) ∧ Kept w wr ∧ wr.heap[RB]? = some (.cells #[.int .u8 0, .int .u8 0, .int .i64 0, .slice none 0 0, .int .i64 0, .int .i64 0, .int .i64 0, .int .i64 0, .int .i64 0, .bool false, .bool false, .bool false, .bool false] 59 (0, 0)) ∧ wr.heap[QB]? = some (.cells #[.int .u8 f.kind, .int .u8 f.report, .int .u8 f.first, .int .u8 f.many, .int .i16 f.lo, .int .u16 f.more, .int .u8 f.count, .int .u8 f.flags] 65 (0, 0)) ∧ wr.heap[FB]? = some (.cells #[.int .u8 kd, .int .u8 rp', .int .i64 0, v, .int .i64 f.lo, .int .i64 hi', .int .i64 0, .int .i64 ct, .int .i64 0, .bool cst, .bool arr, .bool sg, .bool rel] 59 (0, 0)) ∧ Own u32T 27 w.heap.size wr v k ((List.range k).map fun (q : Nat) => 458752 + f.first + (q : Int)))
 case atStart => exact ⟨0, .slice none 0 0, by omega, rfl, Hk.out, HR.out, HP.out, HFb.out, Own.nil _ _ _ _⟩
 case round =>
  clear HR HP HFb Hk
  obtain ⟨k, v, hk, rfl, hkr, hR, hP, hFb, hown⟩ := hrel
  obtain ⟨AV, cv, rfl, hv1, hv2⟩ := hown.isSlice
  have q3 : wr.cell? ⟨QB, 3, none⟩ = some (.int .u8 f.many) := cell_heap hP (o := 3) rfl
  have q2 : wr.cell? ⟨QB, 2, none⟩ = some (.int .u8 f.first) := cell_heap hP (o := 2) rfl
  have lQ := heap_lt hP
  have g3 : wr.cell? ⟨FB, 3, none⟩ = some (.slice AV k cv) := cell_heap hFb (o := 3) rfl
  have fg3 := frozen_heap hFb (o := 3)
  have lF := heap_lt hFb
  have Hk := hide hk
  have Hkr := hide hkr
  have HR := hide hR
  have HP := hide hP
  have HFb := hide hFb
  have Hown := hide hown
  have hsz := hkr.size
  clear hk hkr hR hP hFb hown
  by_cases hlk : k < mm + 1
  case pos =>
   have hle : (k : Int) ≤ (mm : Int) := by omega
   have hwk : IntKind.i64.wrap ((k : Int) + 1) = ((k + 1 : Nat) : Int) := by rw [IntKind.wrap_i64]; omega
   have hw1 : IntKind.u32.wrap (k : Int) = (k : Int) := by rw [IntKind.wrap_u32]; omega
   have hw2 : IntKind.u32.wrap (458752 + f.first + (k : Int)) = 458752 + f.first + (k : Int) := by rw [IntKind.wrap_u32]; omega
   have hw3 : IntKind.u32.wrap f.first = f.first := by rw [IntKind.wrap_u32]; omega
   go_upto_region 7 with (at_builtin; refine wpList_append_el (T := u32T) rfl (.tmp 64) (.tmp 72) 57 rfl w.heap.size 27 i7 _ 4 Try.underlying57 hi7 h70 h71 h72 rfl (by exact Nat.one_pos) _ k _ (by rfl) (Hown.out.alloc _) wr.heap.size _ _ (458752 + f.first + (k : Int)) (by rfl) (heap_at _ rfl) (by exact ⟨rfl, by unfold u32k; omega⟩) (by simp [Value.oneCell']) (by unfold maxLen; omega) (by omega) (by simp; omega) ?_; intro g9 cap9 w9 hown9 hg9 hb9 hat9 hlt9; have hF9 := heap_grown hg9 (heap_past HFb.out) (fun e => own_type_ne Hown.out HFb.out (by decide) e.symm); have g39 : w9.cell? ⟨FB, 3, none⟩ = some (.slice AV k cv) := cell_heap hF9 (o := 3) rfl; have fg9 := frozen_heap hF9 (o := 3); have lF9 := heap_lt hF9)
   have hR9 := heap_grown hg9 (heap_past HR.out) (fun e => own_type_ne Hown.out HR.out (by decide) e.symm)
   have hP9 := heap_grown hg9 (heap_past HP.out) (fun e => own_type_ne Hown.out HP.out (by decide) e.symm)
   have hk9 : Kept w w9 := (Hkr.out.alloc hsz _).trans hb9
   have hlst : (List.range k).map (fun (q : Nat) => 458752 + f.first + (q : Int)) ++ [458752 + f.first + (k : Int)] = (List.range (k + 1)).map fun (q : Nat) => 458752 + f.first + (q : Int) := by rw [List.range_succ, List.map_append]; rfl
   rw [hlst] at hown9
   have hne9 : (Value.slice (some ⟨g9, 0, none⟩) (k + 1) cap9).ownBlock ≠ some FB := own_type_ne hown9 hF9 (by decide)
   have hown10 : Own u32T 27 w.heap.size (w9.setCell ⟨FB, 3, none⟩ (.slice (some ⟨g9, 0, none⟩) (k + 1) cap9)) (.slice (some ⟨g9, 0, none⟩) (k + 1) cap9) (k + 1) ((List.range (k + 1)).map fun (q : Nat) => 458752 + f.first + (q : Int)) := hown9.sameB flat_u32 (fun b hb => heap_setCell_other _ _ _ _ (fun e => hne9 (by rw [hb]; exact congrArg some e)))
   have Hown10 := hide hown10
   have HF10 := hide (show (w9.setCell ⟨FB, 3, none⟩ (.slice (some ⟨g9, 0, none⟩) (k + 1) cap9)).heap[FB]? = some (.cells #[.int .u8 kd, .int .u8 rp', .int .i64 0, .slice (some ⟨g9, 0, none⟩) (k + 1) cap9, .int .i64 f.lo, .int .i64 hi', .int .i64 0, .int .i64 ct, .int .i64 0, .bool cst, .bool arr, .bool sg, .bool rel] 59 (0, 0)) from heap_store hF9 _)
   have HR10 := hide (heap_other (a := ⟨FB, 3, none⟩) (v := .slice (some ⟨g9, 0, none⟩) (k + 1) cap9) hR9 (by show RB ≠ FB; omega))
   have HP10 := hide (heap_other (a := ⟨FB, 3, none⟩) (v := .slice (some ⟨g9, 0, none⟩) (k + 1) cap9) hP9 (by show QB ≠ FB; omega))
   have Hk10 := hide (show Kept w (w9.setCell ⟨FB, 3, none⟩ (.slice (some ⟨g9, 0, none⟩) (k + 1) cap9)) from hk9.setCell (by show w.heap.size ≤ FB; omega) _)
   clear hown9 hg9 hb9 hat9 hlt9 hF9 hR9 hP9 hk9 hlst hne9 hown10 HR HP HFb Hkr Hown q2 q3
   go_wp2_with fail
   go_roundg (gk - 1)
   case measure => have := Hk.out; omega
   case rel => exact ⟨k + 1, _, by have := Hk.out; omega, by first | rfl | go_num, Hk10.out, HR10.out, HP10.out, HF10.out, Hown10.out⟩
  case neg =>
   have hkm : k = mm + 1 := by have := Hk.out; omega
   have hnle : ¬ (k : Int) ≤ (mm : Int) := by omega
   have g6 : wr.cell? ⟨FB, 6, none⟩ = some (.int .i64 0) := cell_heap HFb.out (o := 6) rfl
   have fg6 := frozen_heap HFb.out (o := 6)
   subst hkm
   have HF1 := hide (show (wr.setCell ⟨FB, 6, none⟩ (.int .i64 1)).heap[FB]? = some (.cells #[.int .u8 kd, .int .u8 rp', .int .i64 0, .slice AV (mm + 1) cv, .int .i64 f.lo, .int .i64 hi', .int .i64 ((1 : Nat) : Int), .int .i64 ct, .int .i64 0, .bool cst, .bool arr, .bool sg, .bool rel] 59 (0, 0)) from heap_store HFb.out _)
   have HR1 := hide (heap_other (a := ⟨FB, 6, none⟩) (v := .int .i64 1) HR.out (by show RB ≠ FB; omega))
   have hne1 : (Value.slice AV (mm + 1) cv).ownBlock ≠ some FB := own_type_ne Hown.out HFb.out (by decide)
   have Hown1 := hide (show Own u32T 27 w.heap.size (wr.setCell ⟨FB, 6, none⟩ (.int .i64 1)) (.slice AV (mm + 1) cv) (mm + 1) ((List.range (mm + 1)).map fun (q : Nat) => 458752 + f.first + (q : Int)) from Hown.out.sameB flat_u32 (fun b hb => heap_setCell_other _ _ _ _ (fun e => hne1 (by rw [hb]; exact congrArg some e))))
   have Hk1 := hide (show Kept w (wr.setCell ⟨FB, 6, none⟩ (.int .i64 1)) from Hkr.out.setCell (by show w.heap.size ≤ FB; omega) _)
   have hnle2 : ¬ ((mm : Int) + 1 ≤ (mm : Int)) := by omega
   clear HR HP HFb Hkr Hown q2 hne1
   go_wp2_with fail
   go_loopg [105] 20 (fun g lO wx => ∃ n : Nat, n + g = 21 ∧ 1 ≤ n ∧ n ≤ 18 ∧ szF g f.lo hi' n = sizeF f.lo hi' ∧ Kept w wx ∧ wx.heap[RB]? = some (.cells #[.int .u8 0, .int .u8 0, .int .i64 0, .slice none 0 0, .int .i64 0, .int .i64 0, .int .i64 0, .int .i64 0, .int .i64 0, .bool false, .bool false, .bool false, .bool false] 59 (0, 0)) ∧ wx.heap[FB]? = some (.cells #[.int .u8 kd, .int .u8 rp', .int .i64 0, .slice AV (mm + 1) cv, .int .i64 f.lo, .int .i64 hi', .int .i64 (n : Int), .int .i64 ct, .int .i64 0, .bool cst, .bool arr, .bool sg, .bool rel] 59 (0, 0)) ∧ Own u32T 27 w.heap.size wx (.slice AV (mm + 1) cv) (mm + 1) ((List.range (mm + 1)).map fun (q : Nat) => 458752 + f.first + (q : Int)))
   case atStart => exact ⟨1, by omega, by omega, by omega, rfl, Hk1.out, HR1.out, HF1.out, Hown1.out⟩
   case round =>
    clear HF1 HR1 Hown1 Hk1
    obtain ⟨n, hn, n1, n18, hsz, hkx, hR, hFb, hown⟩ := hrel
    have g4 : wr.cell? ⟨FB, 4, none⟩ = some (.int .i64 f.lo) := cell_heap hFb (o := 4) rfl
    have g5 : wr.cell? ⟨FB, 5, none⟩ = some (.int .i64 hi') := cell_heap hFb (o := 5) rfl
    have g6 : wr.cell? ⟨FB, 6, none⟩ = some (.int .i64 (n : Int)) := cell_heap hFb (o := 6) rfl
    have fg6 := frozen_heap hFb (o := 6)
    have lF := heap_lt hFb
    obtain ⟨p0, p1⟩ := two_pow n (by omega)
    obtain ⟨r0, r1⟩ := two_pow (n - 1) (by omega)
    have e1 : ((n : Int) - 1).toNat = n - 1 := by omega
    have hn0 : (0 : Int) ≤ (n : Int) := by omega
    have hn1 : (0 : Int) ≤ (n : Int) - 1 := by omega
    have w0 : IntKind.i64.wrap ((n : Int) - 1) = (n : Int) - 1 := by rw [IntKind.wrap_i64]; omega
    have w1 : IntKind.i64.wrap (2 ^ n) = 2 ^ n := by rw [IntKind.wrap_i64]; omega
    have w3 : IntKind.i64.wrap (2 ^ (n - 1)) = 2 ^ (n - 1) := by rw [IntKind.wrap_i64]; omega
    have w5 : IntKind.i64.wrap (-2 ^ (n - 1)) = -2 ^ (n - 1) := by rw [IntKind.wrap_i64]; omega
    have w6 : IntKind.i64.wrap (-1 * 2 ^ (n - 1)) = -2 ^ (n - 1) := by rw [IntKind.wrap_i64]; omega
    have w7 : IntKind.i64.wrap ((n : Int) + 1) = ((n + 1 : Nat) : Int) := by rw [IntKind.wrap_i64]; omega
    have Hn := hide hn
    have Hsz := hide hsz
    have Hkx := hide hkx
    have HR := hide hR
    have HFb := hide hFb
    have Hown := hide hown
    have hstop : badSz f.lo hi' n = false → szF gk f.lo hi' n = n := fun hb => by
     obtain ⟨g2, hg2⟩ : ∃ g2, gk = g2 + 1 := ⟨gk - 1, by omega⟩
     rw [hg2]
     unfold szF
     rw [if_neg (by rw [hb]; decide)]
    have hmore : badSz f.lo hi' n = true → szF gk f.lo hi' n = szF (gk - 1) f.lo hi' (n + 1) ∧ n + 1 ≤ 18 := fun hb => by
     obtain ⟨g2, hg2⟩ : ∃ g2, gk = g2 + 1 := ⟨gk - 1, by omega⟩
     refine ⟨?_, ?_⟩
     ·rw [hg2]
      conv => lhs; unfold szF
      rw [if_pos hb]
      rfl
     ·have : n ≠ 18 := fun e => by rw [e, h18] at hb; cases hb
      omega
    have Hstop := hide hstop
    have Hmore := hide hmore
    clear hn hsz hkx hR hFb hown hstop hmore h18
    have hbad : badSz f.lo hi' n = (decide (2 ^ n ≤ hi') || (decide (f.lo < 0) && (decide (f.lo < -(2 ^ (n - 1))) || decide (2 ^ (n - 1) ≤ hi')))) := rfl
    have Hbad := hide hbad
    clear hbad
    by_cases c1 : 2 ^ n ≤ hi'
    case pos =>
     have hb : badSz f.lo hi' n = true := by rw [Hbad.out]; simp [c1]
     have hm2 := Hmore.out hb
     have Hm2 := hide hm2
     clear hm2 hb
     go_upto_region 10 with fail
     go_quiet (fail)
     go_upto_region 11 with fail
     refine wp_at (fun Z => Kept w Z ∧ ∀ b : Nat, Z.heap[b]? = wr.heap[b]?) ⟨by first | exact below_drewN Hkx.out _ | exact Hkx.out.drew, fun _ => rfl⟩ (fun Z hZ => ?_)
     obtain ⟨hkZ, hsZ⟩ := hZ
     have hFZ := (hsZ FB).trans HFb.out
     have hRZ := (hsZ RB).trans HR.out
     have hoZ := Hown.out.sameB (w' := Z) flat_u32 (fun b _ => hsZ b)
     have z6 : Z.cell? ⟨FB, 6, none⟩ = some (.int .i64 (n : Int)) := cell_heap hFZ (o := 6) rfl
     have fz6 := frozen_heap hFZ (o := 6)
     have lZ := heap_lt hFZ
     have HF2 := hide (show (Z.setCell ⟨FB, 6, none⟩ (.int .i64 ((n + 1 : Nat) : Int))).heap[FB]? = some (.cells #[.int .u8 kd, .int .u8 rp', .int .i64 0, .slice AV (mm + 1) cv, .int .i64 f.lo, .int .i64 hi', .int .i64 ((n + 1 : Nat) : Int), .int .i64 ct, .int .i64 0, .bool cst, .bool arr, .bool sg, .bool rel] 59 (0, 0)) from heap_store hFZ _)
     have HR2 := hide (heap_other (a := ⟨FB, 6, none⟩) (v := .int .i64 ((n + 1 : Nat) : Int)) hRZ (by show RB ≠ FB; omega))
     have hne2 : (Value.slice AV (mm + 1) cv).ownBlock ≠ some FB := own_type_ne hoZ hFZ (by decide)
     have Hown2 := hide (show Own u32T 27 w.heap.size (Z.setCell ⟨FB, 6, none⟩ (.int .i64 ((n + 1 : Nat) : Int))) (.slice AV (mm + 1) cv) (mm + 1) ((List.range (mm + 1)).map fun (q : Nat) => 458752 + f.first + (q : Int)) from hoZ.sameB flat_u32 (fun b hb => heap_setCell_other _ _ _ _ (fun e => hne2 (by rw [hb]; exact congrArg some e))))
     have Hk2 := hide (show Kept w (Z.setCell ⟨FB, 6, none⟩ (.int .i64 ((n + 1 : Nat) : Int))) from hkZ.setCell (by show w.heap.size ≤ FB; omega) _)
     clear hne2 HFb HR Hown Hkx hkZ hsZ hFZ hRZ hoZ g4 g5 g6 fg6 lF
     go_wp2_with fail
     go_roundg (gk - 1)
     case measure => have := Hn.out; omega
     case rel => exact ⟨n + 1, by have := Hn.out; omega, by omega, Hm2.out.2, by rw [← Hm2.out.1]; exact Hsz.out, Hk2.out, HR2.out, HF2.out, Hown2.out⟩
    case neg =>
    have c1' : hi' < 2 ^ n := by omega
    by_cases c2 : f.lo < 0
    case neg =>
     have c2' : 0 ≤ f.lo := by omega
     have hb : badSz f.lo hi' n = false := by rw [Hbad.out]; simp [c1, c2]
     have hsn : sizeF f.lo hi' = n := by rw [← Hsz.out]; exact Hstop.out hb
     clear hb
     go_upto_region 10 with fail
     go_quiet (fail)
     go_upto_region 12 with fail
     refine wp_at (fun Z => Kept w Z ∧ ∀ b : Nat, Z.heap[b]? = wr.heap[b]?) ⟨by first | exact below_drewN Hkx.out _ | exact Hkx.out.drew, fun _ => rfl⟩ (fun Z hZ => ?_)
     obtain ⟨hkZ, hsZ⟩ := hZ
     have hFZ := (hsZ FB).trans HFb.out
     have hRZ := (hsZ RB).trans HR.out
     have hoZ := Hown.out.sameB (w' := Z) flat_u32 (fun b _ => hsZ b)
     have hne3 : (Value.slice AV (mm + 1) cv).ownBlock ≠ some RB := own_type_ne hoZ hRZ (by decide)
     have Hk3 := hide (below_row hkZ (show w.heap.size ≤ RB by omega) #[.int .u8 kd, .int .u8 rp', .int .i64 0, .slice AV (mm + 1) cv, .int .i64 f.lo, .int .i64 hi', .int .i64 (n : Int), .int .i64 ct, .int .i64 0, .bool cst, .bool arr, .bool sg, .bool rel])
     have HR3 := hide (heap_row (c' := #[.int .u8 kd, .int .u8 rp', .int .i64 0, .slice AV (mm + 1) cv, .int .i64 f.lo, .int .i64 hi', .int .i64 (n : Int), .int .i64 ct, .int .i64 0, .bool cst, .bool arr, .bool sg, .bool rel]) hRZ)
     have Ho3 := hide (show Own u32T 27 w.heap.size (Z.setRow RB #[.int .u8 kd, .int .u8 rp', .int .i64 0, .slice AV (mm + 1) cv, .int .i64 f.lo, .int .i64 hi', .int .i64 (n : Int), .int .i64 ct, .int .i64 0, .bool cst, .bool arr, .bool sg, .bool rel]) (.slice AV (mm + 1) cv) (mm + 1) ((List.range (mm + 1)).map fun (q : Nat) => 458752 + f.first + (q : Int)) from hoZ.sameB flat_u32 (fun b hb => by simp [World.setRow, Array.getElem?_modify, show ¬ RB = b from fun e => hne3 (by rw [hb, e])]))
     have HRZ := hide hRZ
     have HFZ := hide hFZ
     clear hkZ hsZ hRZ hFZ hoZ hne3 HFb HR Hown Hkx g4 g5 g6 fg6 lF
     go_wp2_with (first
      | (refine wpList_load_row rfl 59 (.tmp 6) rfl _ (by rfl) 59 _ (0, 0) _ HFZ.out Try.underlying59 rfl (by kernel_rfl) ?_)
      | (refine wpList_store_row rfl 59 (.tmp 4) (.tmp 110) rfl RB #[.int .u8 kd, .int .u8 rp', .int .i64 0, .slice AV (mm + 1) cv, .int .i64 f.lo, .int .i64 hi', .int .i64 (n : Int), .int .i64 ct, .int .i64 0, .bool cst, .bool arr, .bool sg, .bool rel] (by rfl) (by rfl) 59 _ HRZ.out (by kernel_rfl) (by rfl) (by simp [Value.oneCell']) ?_))
     refine bodyPost_ret (results_cell_row rfl _ _ RB 59 #[.int .u8 kd, .int .u8 rp', .int .i64 0, .slice AV (mm + 1) cv, .int .i64 f.lo, .int .i64 hi', .int .i64 (n : Int), .int .i64 ct, .int .i64 0, .bool cst, .bool arr, .bool sg, .bool rel] (0, 0) _ rfl HR3.out Try.underlying59 rfl (by kernel_rfl)) rfl ?_
     refine ⟨⟨AV, cv, by rw [HF.out, hsn], by have h7 := Ho3.out; rw [HUL.out] at h7; exact h7⟩, Hk3.out⟩
    case pos =>
    by_cases c3 : f.lo < -2 ^ (n - 1)
    case pos =>
     have hb : badSz f.lo hi' n = true := by rw [Hbad.out]; simp [c2, c3]
     have hm2 := Hmore.out hb
     have Hm2 := hide hm2
     clear hm2 hb
     go_upto_region 10 with fail
     go_quiet (fail)
     go_upto_region 11 with fail
     refine wp_at (fun Z => Kept w Z ∧ ∀ b : Nat, Z.heap[b]? = wr.heap[b]?) ⟨by first | exact below_drewN Hkx.out _ | exact Hkx.out.drew, fun _ => rfl⟩ (fun Z hZ => ?_)
     obtain ⟨hkZ, hsZ⟩ := hZ
     have hFZ := (hsZ FB).trans HFb.out
     have hRZ := (hsZ RB).trans HR.out
     have hoZ := Hown.out.sameB (w' := Z) flat_u32 (fun b _ => hsZ b)
     have z6 : Z.cell? ⟨FB, 6, none⟩ = some (.int .i64 (n : Int)) := cell_heap hFZ (o := 6) rfl
     have fz6 := frozen_heap hFZ (o := 6)
     have lZ := heap_lt hFZ
     have HF2 := hide (show (Z.setCell ⟨FB, 6, none⟩ (.int .i64 ((n + 1 : Nat) : Int))).heap[FB]? = some (.cells #[.int .u8 kd, .int .u8 rp', .int .i64 0, .slice AV (mm + 1) cv, .int .i64 f.lo, .int .i64 hi', .int .i64 ((n + 1 : Nat) : Int), .int .i64 ct, .int .i64 0, .bool cst, .bool arr, .bool sg, .bool rel] 59 (0, 0)) from heap_store hFZ _)
     have HR2 := hide (heap_other (a := ⟨FB, 6, none⟩) (v := .int .i64 ((n + 1 : Nat) : Int)) hRZ (by show RB ≠ FB; omega))
     have hne2 : (Value.slice AV (mm + 1) cv).ownBlock ≠ some FB := own_type_ne hoZ hFZ (by decide)
     have Hown2 := hide (show Own u32T 27 w.heap.size (Z.setCell ⟨FB, 6, none⟩ (.int .i64 ((n + 1 : Nat) : Int))) (.slice AV (mm + 1) cv) (mm + 1) ((List.range (mm + 1)).map fun (q : Nat) => 458752 + f.first + (q : Int)) from hoZ.sameB flat_u32 (fun b hb => heap_setCell_other _ _ _ _ (fun e => hne2 (by rw [hb]; exact congrArg some e))))
     have Hk2 := hide (show Kept w (Z.setCell ⟨FB, 6, none⟩ (.int .i64 ((n + 1 : Nat) : Int))) from hkZ.setCell (by show w.heap.size ≤ FB; omega) _)
     clear hne2 HFb HR Hown Hkx hkZ hsZ hFZ hRZ hoZ g4 g5 g6 fg6 lF
     go_wp2_with fail
     go_roundg (gk - 1)
     case measure => have := Hn.out; omega
     case rel => exact ⟨n + 1, by have := Hn.out; omega, by omega, Hm2.out.2, by rw [← Hm2.out.1]; exact Hsz.out, Hk2.out, HR2.out, HF2.out, Hown2.out⟩
    case neg =>
    have c3' : -2 ^ (n - 1) ≤ f.lo := by omega
    by_cases c4 : 2 ^ (n - 1) ≤ hi'
    case pos =>
     have hb : badSz f.lo hi' n = true := by rw [Hbad.out]; simp [c2, c4]
     have hm2 := Hmore.out hb
     have Hm2 := hide hm2
     clear hm2 hb
     go_upto_region 10 with fail
     go_quiet (fail)
     go_upto_region 11 with fail
     refine wp_at (fun Z => Kept w Z ∧ ∀ b : Nat, Z.heap[b]? = wr.heap[b]?) ⟨by first | exact below_drewN Hkx.out _ | exact Hkx.out.drew, fun _ => rfl⟩ (fun Z hZ => ?_)
     obtain ⟨hkZ, hsZ⟩ := hZ
     have hFZ := (hsZ FB).trans HFb.out
     have hRZ := (hsZ RB).trans HR.out
     have hoZ := Hown.out.sameB (w' := Z) flat_u32 (fun b _ => hsZ b)
     have z6 : Z.cell? ⟨FB, 6, none⟩ = some (.int .i64 (n : Int)) := cell_heap hFZ (o := 6) rfl
     have fz6 := frozen_heap hFZ (o := 6)
     have lZ := heap_lt hFZ
     have HF2 := hide (show (Z.setCell ⟨FB, 6, none⟩ (.int .i64 ((n + 1 : Nat) : Int))).heap[FB]? = some (.cells #[.int .u8 kd, .int .u8 rp', .int .i64 0, .slice AV (mm + 1) cv, .int .i64 f.lo, .int .i64 hi', .int .i64 ((n + 1 : Nat) : Int), .int .i64 ct, .int .i64 0, .bool cst, .bool arr, .bool sg, .bool rel] 59 (0, 0)) from heap_store hFZ _)
     have HR2 := hide (heap_other (a := ⟨FB, 6, none⟩) (v := .int .i64 ((n + 1 : Nat) : Int)) hRZ (by show RB ≠ FB; omega))
     have hne2 : (Value.slice AV (mm + 1) cv).ownBlock ≠ some FB := own_type_ne hoZ hFZ (by decide)
     have Hown2 := hide (show Own u32T 27 w.heap.size (Z.setCell ⟨FB, 6, none⟩ (.int .i64 ((n + 1 : Nat) : Int))) (.slice AV (mm + 1) cv) (mm + 1) ((List.range (mm + 1)).map fun (q : Nat) => 458752 + f.first + (q : Int)) from hoZ.sameB flat_u32 (fun b hb => heap_setCell_other _ _ _ _ (fun e => hne2 (by rw [hb]; exact congrArg some e))))
     have Hk2 := hide (show Kept w (Z.setCell ⟨FB, 6, none⟩ (.int .i64 ((n + 1 : Nat) : Int))) from hkZ.setCell (by show w.heap.size ≤ FB; omega) _)
     clear hne2 HFb HR Hown Hkx hkZ hsZ hFZ hRZ hoZ g4 g5 g6 fg6 lF
     go_wp2_with fail
     go_roundg (gk - 1)
     case measure => have := Hn.out; omega
     case rel => exact ⟨n + 1, by have := Hn.out; omega, by omega, Hm2.out.2, by rw [← Hm2.out.1]; exact Hsz.out, Hk2.out, HR2.out, HF2.out, Hown2.out⟩
    case neg =>
     have c4' : hi' < 2 ^ (n - 1) := by omega
     have hb : badSz f.lo hi' n = false := by rw [Hbad.out]; simp [c1, c3, c4]
     have hsn : sizeF f.lo hi' = n := by rw [← Hsz.out]; exact Hstop.out hb
     clear hb
     go_upto_region 10 with fail
     go_quiet (fail)
     go_upto_region 12 with fail
     refine wp_at (fun Z => Kept w Z ∧ ∀ b : Nat, Z.heap[b]? = wr.heap[b]?) ⟨by first | exact below_drewN Hkx.out _ | exact Hkx.out.drew, fun _ => rfl⟩ (fun Z hZ => ?_)
     obtain ⟨hkZ, hsZ⟩ := hZ
     have hFZ := (hsZ FB).trans HFb.out
     have hRZ := (hsZ RB).trans HR.out
     have hoZ := Hown.out.sameB (w' := Z) flat_u32 (fun b _ => hsZ b)
     have hne3 : (Value.slice AV (mm + 1) cv).ownBlock ≠ some RB := own_type_ne hoZ hRZ (by decide)
     have Hk3 := hide (below_row hkZ (show w.heap.size ≤ RB by omega) #[.int .u8 kd, .int .u8 rp', .int .i64 0, .slice AV (mm + 1) cv, .int .i64 f.lo, .int .i64 hi', .int .i64 (n : Int), .int .i64 ct, .int .i64 0, .bool cst, .bool arr, .bool sg, .bool rel])
     have HR3 := hide (heap_row (c' := #[.int .u8 kd, .int .u8 rp', .int .i64 0, .slice AV (mm + 1) cv, .int .i64 f.lo, .int .i64 hi', .int .i64 (n : Int), .int .i64 ct, .int .i64 0, .bool cst, .bool arr, .bool sg, .bool rel]) hRZ)
     have Ho3 := hide (show Own u32T 27 w.heap.size (Z.setRow RB #[.int .u8 kd, .int .u8 rp', .int .i64 0, .slice AV (mm + 1) cv, .int .i64 f.lo, .int .i64 hi', .int .i64 (n : Int), .int .i64 ct, .int .i64 0, .bool cst, .bool arr, .bool sg, .bool rel]) (.slice AV (mm + 1) cv) (mm + 1) ((List.range (mm + 1)).map fun (q : Nat) => 458752 + f.first + (q : Int)) from hoZ.sameB flat_u32 (fun b hb => by simp [World.setRow, Array.getElem?_modify, show ¬ RB = b from fun e => hne3 (by rw [hb, e])]))
     have HRZ := hide hRZ
     have HFZ := hide hFZ
     clear hkZ hsZ hRZ hFZ hoZ hne3 HFb HR Hown Hkx g4 g5 g6 fg6 lF
     go_wp2_with (first
      | (refine wpList_load_row rfl 59 (.tmp 6) rfl _ (by rfl) 59 _ (0, 0) _ HFZ.out Try.underlying59 rfl (by kernel_rfl) ?_)
      | (refine wpList_store_row rfl 59 (.tmp 4) (.tmp 110) rfl RB #[.int .u8 kd, .int .u8 rp', .int .i64 0, .slice AV (mm + 1) cv, .int .i64 f.lo, .int .i64 hi', .int .i64 (n : Int), .int .i64 ct, .int .i64 0, .bool cst, .bool arr, .bool sg, .bool rel] (by rfl) (by rfl) 59 _ HRZ.out (by kernel_rfl) (by rfl) (by simp [Value.oneCell']) ?_))
     refine bodyPost_ret (results_cell_row rfl _ _ RB 59 #[.int .u8 kd, .int .u8 rp', .int .i64 0, .slice AV (mm + 1) cv, .int .i64 f.lo, .int .i64 hi', .int .i64 (n : Int), .int .i64 ct, .int .i64 0, .bool cst, .bool arr, .bool sg, .bool rel] (0, 0) _ rfl HR3.out Try.underlying59 rfl (by kernel_rfl)) rfl ?_
     refine ⟨⟨AV, cv, by rw [HF.out, hsn], by have h7 := Ho3.out; rw [HUL.out] at h7; exact h7⟩, Hk3.out⟩
set_option maxRecDepth 1000000 in
theorem dfield_any (x : PD) (A : Option Addr) (cap i : Nat) (f : PF) (w : World) (hx : PdIs w x A cap) (hf : x.fields[i]? = some f) (hok : ∀ f ∈ x.fields, f.ok) :
  Calls Try.prog 33 #[.agg #[.bool x.numbers, .slice A x.fields.length cap], .int .i64 (i : Int)] w fun e w' => (∃ U c, e = .returned (.agg ((fdS x.numbers f).cellsAt (.slice U (manyF f) c))) ∧ Own u32T 27 w.heap.size w' (.slice U (manyF f) c) (manyF f) (usagesF f)) ∧ Kept w w' := by
 obtain ⟨i7, hi7, h70, h71, h72⟩ := info_parts info27
 obtain ⟨hi, hfe⟩ := List.getElem?_eq_some_iff.1 hf
 have hfo := hok f (List.mem_of_getElem? hf)
 obtain ⟨ba, offa, csa, hAe, hba, hrel, hca⟩ := hx.sl.2 i f hf
 obtain ⟨rfl, _⟩ : csa = f.cells ∧ f.ok := hrel
 have hxc := hx.len
 obtain ⟨n, hn⟩ : ∃ n, x.fields.length = n := ⟨_, rfl⟩
 obtain ⟨nb, hnb⟩ : ∃ b, x.numbers = b := ⟨_, rfl⟩
 rw [hn] at hi hxc
 rw [hn, hnb, hAe]
 have y0 : w.cell? ⟨ba, offa + i * 8, none⟩ = some (.int .u8 f.kind) := hca 0 _ rfl; have y1 : w.cell? ⟨ba, offa + i * 8 + 1, none⟩ = some (.int .u8 f.report) := hca 1 _ rfl; have y2 : w.cell? ⟨ba, offa + i * 8 + 2, none⟩ = some (.int .u8 f.first) := hca 2 _ rfl; have y3 : w.cell? ⟨ba, offa + i * 8 + 3, none⟩ = some (.int .u8 f.many) := hca 3 _ rfl; have y4 : w.cell? ⟨ba, offa + i * 8 + 4, none⟩ = some (.int .i16 f.lo) := hca 4 _ rfl; have y5 : w.cell? ⟨ba, offa + i * 8 + 5, none⟩ = some (.int .u16 f.more) := hca 5 _ rfl; have y6 : w.cell? ⟨ba, offa + i * 8 + 6, none⟩ = some (.int .u8 f.count) := hca 6 _ rfl; have y7 : w.cell? ⟨ba, offa + i * 8 + 7, none⟩ = some (.int .u8 f.flags) := hca 7 _ rfl
 have hbal : ba < w.heap.size := hba
 have hsz := sizeF_ok hfo
 obtain ⟨F, hF⟩ : ∃ F, fdS nb f = F := ⟨_, rfl⟩
 rw [hF]
 have e1 : F.kind = 1 + f.kind % 3 := by rw [← hF]; rfl
 have e2 : F.report = (if nb then 1 + f.report % 3 else 0) := by rw [← hF]; rfl
 have e3 : F.parent = 0 := by rw [← hF]; rfl
 have e4 : F.lo = f.lo := by rw [← hF]; rfl
 have e5 : F.hi = f.lo + f.more := by rw [← hF]; rfl
 have e6 : F.size = (sizeF f.lo (f.lo + f.more) : Int) := by rw [← hF]; rfl
 have e7 : F.count = 1 + f.count % 6 := by rw [← hF]; rfl
 have e8 : F.pos = 0 := by rw [← hF]; rfl
 have e9 : F.const = (f.flags % 2 == 1) := by rw [← hF]; rfl
 have e10 : F.array = (f.flags / 2 % 2 == 0) := by rw [← hF]; rfl
 have e11 : F.signed = decide (f.lo < 0) := by rw [← hF]; rfl
 have e12 : F.rel = (f.flags / 4 % 2 == 1) := by rw [← hF]; rfl
 obtain ⟨⟨k0, k1⟩, ⟨r0, r1⟩, hf8, ⟨m0, m1⟩, ⟨l0, l1⟩, ⟨p0, p1⟩, ⟨c0, c1⟩, hfl⟩ := hfo
 obtain ⟨kd, hkd⟩ : ∃ z, 1 + f.kind % 3 = z := ⟨_, rfl⟩
 obtain ⟨rp, hrp⟩ : ∃ z, 1 + f.report % 3 = z := ⟨_, rfl⟩
 obtain ⟨ct, hct⟩ : ∃ z, 1 + f.count % 6 = z := ⟨_, rfl⟩
 obtain ⟨hi', hhi⟩ : ∃ z, f.lo + f.more = z := ⟨_, rfl⟩
 obtain ⟨cst, hcs⟩ : ∃ b, (f.flags % 2 == 1) = b := ⟨_, rfl⟩
 obtain ⟨arr, har⟩ : ∃ b, (f.flags / 2 % 2 == 0) = b := ⟨_, rfl⟩
 obtain ⟨sg, hsg⟩ : ∃ b, decide (f.lo < 0) = b := ⟨_, rfl⟩
 obtain ⟨rel, hre⟩ : ∃ b, (f.flags / 4 % 2 == 1) = b := ⟨_, rfl⟩
 have w1 : f.kind.tmod 3 = f.kind % 3 := Int.tmod_eq_emod_of_nonneg k0
 have w2 : f.report.tmod 3 = f.report % 3 := Int.tmod_eq_emod_of_nonneg r0
 have w3 : f.count.tmod 6 = f.count % 6 := Int.tmod_eq_emod_of_nonneg c0
 have w4 : f.many.tmod 6 = f.many % 6 := Int.tmod_eq_emod_of_nonneg m0
 have w5 : IntKind.u8.wrap kd = kd := wrap8 (by omega) (by omega)
 have w6 : IntKind.u8.wrap rp = rp := wrap8 (by omega) (by omega)
 have w7 : IntKind.i64.wrap f.lo = f.lo := by rw [IntKind.wrap_i64]; omega
 have w8 : IntKind.i64.wrap f.more = f.more := by rw [IntKind.wrap_i64]; omega
 have w9 : IntKind.i64.wrap hi' = hi' := by rw [IntKind.wrap_i64]; omega
 have w10 : IntKind.i64.wrap (f.count % 6) = f.count % 6 := by rw [IntKind.wrap_i64]; omega
 have w11 : IntKind.i64.wrap ct = ct := by rw [IntKind.wrap_i64]; omega
 have w12 : (bits .and .u8 f.flags 1 != 0) = cst := by rw [bits1 hfl, ← hcs]; rcases (show f.flags % 2 = 0 ∨ f.flags % 2 = 1 by omega) with e | e <;> rw [e] <;> rfl
 have w13 : (bits .and .u8 f.flags 2 == 0) = arr := by rw [bits2 hfl, ← har]; rcases (show f.flags / 2 % 2 = 0 ∨ f.flags / 2 % 2 = 1 by omega) with e | e <;> rw [e] <;> rfl
 have w14 : (bits .and .u8 f.flags 4 != 0) = rel := by rw [bits4 hfl, ← hre]; rcases (show f.flags / 4 % 2 = 0 ∨ f.flags / 4 % 2 = 1 by omega) with e | e <;> rw [e] <;> rfl
 have w12' : (bits .and .u8 f.flags 1 == 0) = !cst := by rw [← w12]; simp [bne]
 have w14' : (bits .and .u8 f.flags 4 == 0) = !rel := by rw [← w14]; simp [bne]
 have hi0 : (0 : Int) ≤ (i : Int) := by omega
 have hin : (i : Int) < (n : Int) := by omega
 have HY := hide (show ∀ (o : Nat) v, f.cells[o]? = some v → w.cell? ⟨ba, offa + i * 8 + o, none⟩ = some v from hca)
 have He := hide (⟨e1, e2, e3, e4, e5, e6, e7, e8, e9, e10, e11, e12⟩ : F.kind = 1 + f.kind % 3 ∧ F.report = (if nb then 1 + f.report % 3 else 0) ∧ F.parent = 0 ∧ F.lo = f.lo ∧ F.hi = f.lo + f.more ∧ F.size = (sizeF f.lo (f.lo + f.more) : Int) ∧ F.count = 1 + f.count % 6 ∧ F.pos = 0 ∧ F.const = (f.flags % 2 == 1) ∧ F.array = (f.flags / 2 % 2 == 0) ∧ F.signed = decide (f.lo < 0) ∧ F.rel = (f.flags / 4 % 2 == 1))
 have Hcs := hide hcs
 have Har := hide har
 have Hre := hide hre
 have Hkd := hide hkd
 have Hrp := hide hrp
 have Hct := hide hct
 have Hhi := hide hhi
 have Hsz := hide hsz
 have Hsg := hide hsg
 clear hba
 clear e1 e2 e3 e4 e5 e6 e7 e8 e9 e10 e11 e12 hsz hx hf hok hfe hn hnb hcs har hre hAe hca
 go_enter Try.func33, Try.ntmps33
 go_upto_region 3 with fail
 refine wp_at (fun V => V.heap[w.heap.size]? = some (.cells #[.bool nb, .slice (some ⟨ba, offa, none⟩) n cap] 52 (0, 0)) ∧ V.heap[w.heap.size + 1]? = some (.cells #[.int .u8 0, .int .u8 0, .int .i64 0, .slice none 0 0, .int .i64 0, .int .i64 0, .int .i64 0, .int .i64 0, .int .i64 0, .bool false, .bool false, .bool false, .bool false] 59 (0, 0)) ∧ V.heap[w.heap.size + 1 + 1]? = some (.cells #[.int .u8 f.kind, .int .u8 f.report, .int .u8 f.first, .int .u8 f.many, .int .i16 f.lo, .int .u16 f.more, .int .u8 f.count, .int .u8 f.flags] 65 (0, 0)) ∧ V.heap[w.heap.size + 1 + 1 + 1]? = some (.cells #[.int .u8 kd, .int .u8 0, .int .i64 0, .slice none 0 0, .int .i64 f.lo, .int .i64 hi', .int .i64 0, .int .i64 ct, .int .i64 0, .bool cst, .bool arr, .bool sg, .bool rel] 59 (0, 0)) ∧ Kept w V) ⟨heap_past (heap_past (heap_past (heap_at _ rfl))), heap_past (heap_past (heap_at _ (by first | rfl | simp))), heap_past (heap_at _ (by first | rfl | simp)), heap_at _ (by first | rfl | simp), by go_grown⟩ (fun V hV => ?_)
 obtain ⟨hVD, hVR, hVP, hVF, hkV⟩ := hV
 obtain ⟨DB, hDB⟩ : ∃ DB, w.heap.size = DB := ⟨_, rfl⟩
 obtain ⟨RB, hRB⟩ : ∃ RB, DB + 1 = RB := ⟨_, rfl⟩
 obtain ⟨QB, hQB⟩ : ∃ QB, RB + 1 = QB := ⟨_, rfl⟩
 obtain ⟨FB, hFB⟩ : ∃ FB, QB + 1 = FB := ⟨_, rfl⟩
 rw [hDB] at hVD
 rw [hDB, hRB] at hVR
 rw [hDB, hRB, hQB] at hVP
 rw [hDB, hRB, hQB, hFB] at hVF
 simp only [hDB, hRB, hQB, hFB]
 have d0 : V.cell? ⟨DB, 0, none⟩ = some (.bool nb) := cell_heap hVD (o := 0) rfl
 have lD := heap_lt hVD
 have q1 : V.cell? ⟨QB, 1, none⟩ = some (.int .u8 f.report) := cell_heap hVP (o := 1) rfl
 have lQ := heap_lt hVP
 have g1 : V.cell? ⟨FB, 1, none⟩ = some (.int .u8 0) := cell_heap hVF (o := 1) rfl
 have fg1 := frozen_heap hVF (o := 1)
 have lF := heap_lt hVF
 have Hn := hide (⟨by omega, by omega, by omega, by omega⟩ : w.heap.size ≤ RB ∧ RB < FB ∧ QB < FB ∧ RB ≠ QB)
 have HVR := hide hVR
 have HVP := hide hVP
 have HVF := hide hVF
 have HkV := hide hkV
 clear hVD hVR hVP hVF hkV hDB hRB hQB hFB hbal y0 y1 y2 y3 y4 y5 y6 y7 w1 w3 w7 w8 w9 w10 w11 w12 w13 w14 w12' w14' hsg HY
 have hmm : f.many.tmod 6 = ((f.many % 6).toNat : Int) := by rw [w4]; omega
 have hmany : manyF f = (f.many % 6).toNat + 1 := rfl
 have hkF : Kept w V := HkV.out
 obtain ⟨e1, e2, e3, e4, e5, e6, e7, e8, e9, e10, e11, e12⟩ := He.out
 have hFin : ∀ (v : Value), F.cellsAt v = #[.int .u8 kd, .int .u8 (if nb then rp else 0), .int .i64 0, v, .int .i64 f.lo, .int .i64 hi', .int .i64 (sizeF f.lo hi' : Int), .int .i64 ct, .int .i64 0, .bool cst, .bool arr, .bool sg, .bool rel] := fun v => by
  unfold Fd.cellsAt
  rw [e1, e2, e3, e4, e5, e6, e7, e8, e9, e10, e11, e12, Hkd.out, Hrp.out, Hct.out, Hhi.out, Hcs.out, Har.out, Hsg.out, Hre.out]
 have hlohi : hi' = f.lo + f.more := Hhi.out.symm
 have hsz2 : badSz f.lo hi' 18 = false := by
  unfold badSz
  simp only [Bool.or_eq_false_iff, Bool.and_eq_false_iff, decide_eq_false_iff_not]
  omega
 cases nb with
 | false =>
  go_upto_region 5 with fail
  refine (dfield_tail (w := w) (W := V) (f := f) (rp' := 0) HVR.out HVP.out HVF.out Hn.out hkF hf8 ⟨m0, m1⟩ hmm ⟨l0, l1⟩ ⟨by omega, by omega⟩ hsz2 (fun v => by rw [hFin]; rfl) _ _ ?_ ?_) <;> assumption
 | true =>
  go_upto_region 5 with fail
  refine (dfield_tail (w := w) (W := V.setCell ⟨FB, 1, none⟩ (.int .u8 rp)) (f := f) (rp' := rp) (heap_other HVR.out (fun e => by have h5 := Hn.out; have h6 : RB = FB := e; omega)) (heap_other HVP.out (fun e => by have h5 := Hn.out; have h6 : QB = FB := e; omega)) (heap_store HVF.out _) Hn.out (hkF.setCell (by have h5 := Hn.out; show w.heap.size ≤ FB; omega) _) hf8 ⟨m0, m1⟩ hmm ⟨l0, l1⟩ ⟨by omega, by omega⟩ hsz2 (fun v => by rw [hFin]; rfl) _ _ ?_ ?_) <;> assumption
end Go.Proofs.Ytegdigfcgeoboaa
