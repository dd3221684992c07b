/- The law of the chapter on reports, part 9: Fe Ro Rq Rr Rx. -/
import Derived.Test.YtegdigfcgeoboaaK8
set_option maxHeartbeats 16000000
set_option linter.unusedVariables false
set_option linter.unusedSimpArgs false
set_option linter.unusedSectionVars false
namespace Go.Proofs.Ytegdigfcgeoboaa
open Go.RowKit Go.Maps
attribute [local go_sem ↓] Go.wp_at_zero Go.wp_at_succ
variable {u2 u3 u4 u6 u8 u9 gI kI gJ jY eG eH u16 eE eF dX dY dZ eA eB eC eD eI eJ eK eL eM eN u32 eO eP iN iO iP iQ iR fK iS iT iU iV iW iX gK gL gM gN gO gP gQ gR gS gT iY iZ jA jB jC jD jE u64 jF jG jH jJ jK jL jM jN jO jP jQ jR jZ kE kF kG kH jS jT jU jV jW jX kJ kK kM kN kO kP kQ kR kS kT kU kV aK aG aA aB aC aD aE aF aH aI aJ aL bC bD bE bF bG bH bI bJ bK bL aR aM aN aO aP aQ aS aT aU aV aW aX aY aZ bA bM bN bP bQ bS bR bT bU bV bW bX cW cX cY cZ dA dB dC dD dE dF dG dH dI dJ dK dL dM dN bY bZ cA cB cC cD cE cF cG cH cI cJ cK cM cN cO cP cQ cR cS cT cU cV : Value}
set_option maxRecDepth 1000000 in
theorem field_mid {w W : World} {base R m ib kb : Nat} {vs vu vf vc : Value} {s : RS} (hr : Rd W base R m vs vu vf vc s) (hb : base ≤ w.heap.size) (hkW : Kept w W) (hold : OldB w vs vu vf vc) (hs : s.Fine) (k : Int) (hk0 : 1 ≤ k ∧ k ≤ 3) (x : It) (hx0 : 0 ≤ x.data) (hx1 : x.data < 4294967296)
  (c : 0 ≤ s.opn) (c1 : 1 ≤ s.g.size) (c2 : s.g.size ≤ 32) (c3 : 1 ≤ s.g.count) (c4 : s.g.count ≤ 256) (c5 : bitsS s.fields k s.g.report + s.g.size * s.g.count ≤ 4096) (c6 : s.fields.length < 256)
  (hkb : W.heap[kb]? = some (.cells #[.int .u8 k, .int .u8 s.g.report] 90 (0, 0))) (hib : W.heap[ib]? = some (.cells #[.int .u8 x.ty, .int .u8 x.tg, .int .i64 x.size, .int .u32 x.data] 29 (0, 0)))
  (K0 : Act → World → Prop) (hK0 : ∀ a w', Code.wp Try.prog (restC codeM) (bodyPost Try.prog Try.f60 (Did base R m w (fieldS s k x))) a w' → K0 a w') :
  Code.wp Try.prog (headC codeM) (Exit.then K0 (bodyPost Try.prog Try.f60 (Did base R m w (fieldS s k x)))) ⟨#[.pointer (some ⟨R, 0, none⟩), .int .u8 k, u2, u3, u4, .pointer (some ⟨ib, 0, none⟩), u6, .pointer (some ⟨kb, 0, none⟩), u8, u9, gI, kI, gJ, jY, eG, eH, u16, eE, eF, dX, dY, dZ, eA, eB, eC, eD, eI, eJ, eK, eL, eM, eN, u32, eO, eP, iN, iO, iP, iQ, iR, fK, iS, iT, iU, iV, iW, iX, gK, gL, gM, gN, gO, gP, gQ, gR, gS, gT, iY, iZ, jA, jB, jC, jD, jE, u64, jF, jG, jH, jJ, jK, jL, jM, jN, jO, jP, jQ, jR, jZ, kE, kF, kG, kH, jS, jT, jU, jV, jW, jX, kJ, kK, kM, kN, kO, kP, kQ, kR, kS, kT, kU, kV, aK, aG, aA, aB, aC, aD, aE, aF, aH, aI, aJ, aL, bC, bD, bE, bF, bG, bH, bI, bJ, bK, bL, aR, aM, aN, aO, aP, aQ, aS, aT, aU, aV, aW, aX, aY, aZ, bA, bM, bN, bP, bQ, bS, bR, bT, bU, bV, bW, bX, cW, cX, cY, cZ, dA, dB, dC, dD, dE, dF, dG, dH, dI, dJ, dK, dL, dM, dN, bY, bZ, cA, cB, cC, cD, cE, cF, cG, cH, cI, cJ, cK, cM, cN, cO, cP, cQ, cR, cS, cT, cU, cV], []⟩ W := by
 have hRl := heap_lt hr.box
 have hkl := heap_lt hkb
 have hil := heap_lt hib
 have hrp := hs.report
 have hwr : IntKind.u8.wrap s.g.report = s.g.report := by rw [IntKind.wrap_u8]; omega
 obtain ⟨A, cu, rfl, hA1, hA2⟩ := hr.us.isSlice
 have hul := hs.usages.1
 obtain ⟨B, hB⟩ : ∃ B, bitsS s.fields k s.g.report = B := ⟨_, rfl⟩
 have e0 : W.cell? ⟨R, 1, none⟩ = some (.int .i64 s.g.lo) := cell_heap hr.box (o := 1) rfl
 have e1 : W.cell? ⟨R, 2, none⟩ = some (.int .i64 s.g.hi) := cell_heap hr.box (o := 2) rfl
 have e2 : W.cell? ⟨R, 3, none⟩ = some (.int .u32 s.g.size) := cell_heap hr.box (o := 3) rfl
 have e3 : W.cell? ⟨R, 4, none⟩ = some (.int .u32 s.g.count) := cell_heap hr.box (o := 4) rfl
 have e4 : W.cell? ⟨R, 5, none⟩ = some (.int .u32 s.g.report) := cell_heap hr.box (o := 5) rfl
 have e5 : W.cell? ⟨R, 7, none⟩ = some (.slice A s.usages.length cu) := cell_heap hr.box (o := 7) rfl
 have e6 : W.cell? ⟨R, 10, none⟩ = some (.int .i64 s.opn) := cell_heap hr.box (o := 10) rfl
 have e7 : W.cell? ⟨R, 11, none⟩ = some (.map (some m)) := cell_heap hr.box (o := 11) rfl
 have e8 : W.cell? ⟨kb, 0, none⟩ = some (.int .u8 k) := cell_heap hkb (o := 0) rfl
 have e9 : W.cell? ⟨kb, 1, none⟩ = some (.int .u8 s.g.report) := cell_heap hkb (o := 1) rfl
 have e10 : W.cell? ⟨ib, 3, none⟩ = some (.int .u32 x.data) := cell_heap hib (o := 3) rfl
 have hws : IntKind.i64.wrap s.g.size = s.g.size := by rw [IntKind.wrap_i64]; omega
 have hwc : IntKind.i64.wrap s.g.count = s.g.count := by rw [IntKind.wrap_i64]; omega
 have hcl : ∀ w' : World, Kept W w' → Calls Try.prog 76 #[.slice A s.usages.length cu] w' fun e w'' => ∃ A' c', e = .returned (.slice A' s.usages.length c') ∧ s.usages.length ≤ c' ∧ c' ≤ maxLen ∧ Sl u32T w'' (fun g => w'.heap.size ≤ g ∧ g < w''.heap.size) A' s.usages.length s.usages ∧ Kept w' w'' :=
  fun w' hk => clone76 A _ cu s.usages w' hul (hr.us.sl.kept hk)
 have hlk : ∀ w' : World, Kept W w' → (Instr.lookup 81 (.map (some m)) (.agg #[.int .u8 k, .int .u8 s.g.report]) false).run Try.prog w' = .ok (.int .i64 B) w' := fun w' hk => by rw [← hB]; exact hr.look (hk.block m hr.map_lt) hk0 (by unfold u8k; omega)
 have keepL : ∀ w' w1 : World, (((∀ b o, b < W.heap.size → w'.cell? ⟨b, o, none⟩ = W.cell? ⟨b, o, none⟩) ∧ Kept W w') ∧ (Instr.lookup 81 (.map (some m)) (.agg #[.int .u8 k, .int .u8 s.g.report]) false).run Try.prog w' = .ok (.int .i64 B) w') → Kept w' w1 → (((∀ b o, b < W.heap.size → w1.cell? ⟨b, o, none⟩ = W.cell? ⟨b, o, none⟩) ∧ Kept W w1) ∧ (Instr.lookup 81 (.map (some m)) (.agg #[.int .u8 k, .int .u8 s.g.report]) false).run Try.prog w1 = .ok (.int .i64 B) w1) :=
  fun w' w1 h hk => ⟨since_keep h.1 (Nat.le_refl _) hk, hlk _ (h.1.2.trans' hk)⟩
 have start : ((∀ b o, b < W.heap.size → W.drew.cell? ⟨b, o, none⟩ = W.cell? ⟨b, o, none⟩) ∧ Kept W W.drew) ∧ (Instr.lookup 81 (.map (some m)) (.agg #[.int .u8 k, .int .u8 s.g.report]) false).run Try.prog W.drew = .ok (.int .i64 B) W.drew := ⟨since_start, hlk _ ((Below.refl _ _).drew)⟩
 obtain ⟨b1, hb1⟩ : ∃ b, (x.data % 2 == 1) = b := ⟨_, rfl⟩
 obtain ⟨b2, hb2⟩ : ∃ b, (x.data / 2 % 2 == 0) = b := ⟨_, rfl⟩
 obtain ⟨b4, hb4⟩ : ∃ b, (x.data / 4 % 2 == 1) = b := ⟨_, rfl⟩
 have hf1 := (and1 hx0 hx1).trans hb1
 have hf2 := (and2 hx0 hx1).trans hb2
 have hf4 := (and4 hx0 hx1).trans hb4
 have Hb1 := hide hb1
 have Hb2 := hide hb2
 have Hb4 := hide hb4
 clear hb1 hb2 hb4
 have Hlk := hide hlk
 have Hcl := hide hcl
 have HkeepL := hide keepL
 have Hr := hide hr
 have Hs := hide hs
 have Hkb := hide hkb
 have Hib := hide hib
 have HkW := hide hkW
 have HB := hide hB
 have HA2 := hide hA2
 have C5 := hide c5
 have Hk0 := hide hk0
 have Hul := hide hul
 have C6 := hide c6
 have Hb := hide hb
 have Hold := hide hold
 clear hold hlk hcl keepL hr hs hkb hib hkW hB hrp hb hk0 hA2 c5 hA1 hul c6
 refine wp_region_held_named (ops' := opsM) (n := 66) (S := fun w' => ((∀ b o, b < W.heap.size → w'.cell? ⟨b, o, none⟩ = W.cell? ⟨b, o, none⟩) ∧ Kept W w') ∧ (Instr.lookup 81 (.map (some m)) (.agg #[.int .u8 k, .int .u8 s.g.report]) false).run Try.prog w' = .ok (.int .i64 B) w') (by kernel_rfl) (by kernel_rfl) (by kernel_rfl) start (fun hS => ?_)
 clear start
 have ho := opE opsM 0 (by kernel_rfl)
 conv at ho => rhs; arg 1; whnf
 refine tk0 (v := ?_) ho (by kernel_rfl) hS ?_ ?_ <;> clear ho
 rotate_left
 ·intro w' hq hq2; first | (go_simp; done) | (go_simp; with_reducible rfl)
 try simp only [Act.put, zp1, zp2, zp3, zp4, zp5, zp6]
 have ho := opE opsM 1 (by kernel_rfl)
 conv at ho => rhs; arg 1; whnf
 refine tk0 (v := ?_) ho (by kernel_rfl) hS ?_ ?_ <;> clear ho
 rotate_left
 ·intro w' hq hq2; first | (go_simp; done) | (go_simp; with_reducible rfl)
 try simp only [Act.put, zp1, zp2, zp3, zp4, zp5, zp6]
 have ho := opE opsM 2 (by kernel_rfl)
 conv at ho => rhs; arg 1; whnf
 refine tk0 (v := ?_) ho (by kernel_rfl) hS ?_ ?_ <;> clear ho
 rotate_left
 ·intro w' hq hq2; first | (go_simp; done) | (go_simp; with_reducible rfl)
 try simp only [Act.put, zp1, zp2, zp3, zp4, zp5, zp6]
 have ho := opE opsM 3 (by kernel_rfl)
 conv at ho => rhs; arg 1; whnf
 refine tk0 (v := ?_) ho (by kernel_rfl) hS ?_ ?_ <;> clear ho
 rotate_left
 ·intro w' hq hq2; first | (go_simp; done) | (go_simp; with_reducible rfl)
 try simp only [Act.put, zp1, zp2, zp3, zp4, zp5, zp6]
 have ho := opE opsM 4 (by kernel_rfl)
 conv at ho => rhs; arg 1; whnf
 refine tk0 (v := ?_) ho (by kernel_rfl) hS ?_ ?_ <;> clear ho
 rotate_left
 ·intro w' hq hq2; first | (go_simp; done) | (go_simp; with_reducible rfl)
 try simp only [Act.put, zp1, zp2, zp3, zp4, zp5, zp6]
 have ho := opE opsM 5 (by kernel_rfl)
 conv at ho => rhs; arg 1; whnf
 refine tk0 (v := ?_) ho (by kernel_rfl) hS ?_ ?_ <;> clear ho
 rotate_left
 ·intro w' hq hq2; first | (go_simp; done) | (go_simp; with_reducible rfl)
 try simp only [Act.put, zp1, zp2, zp3, zp4, zp5, zp6]
 have ho := opE opsM 6 (by kernel_rfl)
 conv at ho => rhs; arg 1; whnf
 refine tk0 (v := ?_) ho (by kernel_rfl) hS ?_ ?_ <;> clear ho
 rotate_left
 ·intro w' hq hq2; first | (go_simp; done) | (go_simp; with_reducible rfl)
 try simp only [Act.put, zp1, zp2, zp3, zp4, zp5, zp6]
 have ho := opE opsM 7 (by kernel_rfl)
 conv at ho => rhs; arg 1; whnf
 refine tk0 (v := ?_) ho (by kernel_rfl) hS ?_ ?_ <;> clear ho
 rotate_left
 ·intro w' hq hq2; first | (go_simp; done) | (go_simp; with_reducible rfl)
 try simp only [Act.put, zp1, zp2, zp3, zp4, zp5, zp6]
 have ho := opE opsM 8 (by kernel_rfl)
 conv at ho => rhs; arg 1; whnf
 refine tk0 (v := ?_) ho (by kernel_rfl) hS ?_ ?_ <;> clear ho
 rotate_left
 ·intro w' hq hq2; first | (go_simp; done) | (go_simp; with_reducible rfl)
 try simp only [Act.put, zp1, zp2, zp3, zp4, zp5, zp6]
 have ho := opE opsM 9 (by kernel_rfl)
 conv at ho => rhs; arg 1; whnf
 refine tk0 (v := ?_) ho (by kernel_rfl) hS ?_ ?_ <;> clear ho
 rotate_left
 ·intro w' hq hq2; first | (go_simp; done) | (go_simp; with_reducible rfl)
 try simp only [Act.put, zp1, zp2, zp3, zp4, zp5, zp6]
 have ho := opE opsM 10 (by kernel_rfl)
 conv at ho => rhs; arg 1; whnf
 refine tk0 (v := ?_) ho (by kernel_rfl) hS ?_ ?_ <;> clear ho
 rotate_left
 ·intro w' hq hq2; first | (go_simp; done) | (go_simp; with_reducible rfl)
 try simp only [Act.put, zp1, zp2, zp3, zp4, zp5, zp6]
 have ho := opE opsM 11 (by kernel_rfl)
 conv at ho => rhs; arg 1; whnf
 refine tk0 (v := ?_) ho (by kernel_rfl) hS ?_ ?_ <;> clear ho
 rotate_left
 ·intro w' hq hq2; first | (go_simp; done) | (go_simp; with_reducible rfl)
 try simp only [Act.put, zp1, zp2, zp3, zp4, zp5, zp6]
 have ho := opE opsM 12 (by kernel_rfl)
 conv at ho => rhs; arg 1; whnf
 refine tk0 (v := ?_) ho (by kernel_rfl) hS ?_ ?_ <;> clear ho
 rotate_left
 ·intro w' hq hq2; first | (go_simp; done) | (go_simp; with_reducible rfl)
 try simp only [Act.put, zp1, zp2, zp3, zp4, zp5, zp6]
 have ho := opE opsM 13 (by kernel_rfl)
 conv at ho => rhs; arg 1; whnf
 refine tk0 (v := ?_) ho (by kernel_rfl) hS ?_ ?_ <;> clear ho
 rotate_left
 ·intro w' hq hq2; first | (go_simp; done) | (go_simp; with_reducible rfl)
 try simp only [Act.put, zp1, zp2, zp3, zp4, zp5, zp6]
 have ho := opE opsM 14 (by kernel_rfl)
 conv at ho => rhs; arg 1; whnf
 refine tk0 (v := ?_) ho (by kernel_rfl) hS ?_ ?_ <;> clear ho
 rotate_left
 ·intro w' hq hq2; first | (go_simp; done) | (go_simp; with_reducible rfl)
 try simp only [Act.put, zp1, zp2, zp3, zp4, zp5, zp6]
 have ho := opE opsM 17 (by kernel_rfl)
 conv at ho => rhs; arg 1; whnf
 refine tk0 (v := ?_) ho (by kernel_rfl) hS ?_ ?_ <;> clear ho
 rotate_left
 ·intro w' hq hq2; first | (go_simp; done) | (go_simp; with_reducible rfl)
 try simp only [Act.put, zp1, zp2, zp3, zp4, zp5, zp6]
 have ho := opE opsM 18 (by kernel_rfl)
 conv at ho => rhs; arg 1; whnf
 refine tk0 (v := ?_) ho (by kernel_rfl) hS ?_ ?_ <;> clear ho
 rotate_left
 ·intro w' hq hq2; first | (go_simp; done) | (go_simp; with_reducible rfl)
 try simp only [Act.put, zp1, zp2, zp3, zp4, zp5, zp6]
 have ho := opE opsM 19 (by kernel_rfl)
 conv at ho => rhs; arg 1; whnf
 refine tk0 (v := ?_) ho (by kernel_rfl) hS ?_ ?_ <;> clear ho
 rotate_left
 ·intro w' hq hq2; first | (go_simp; done) | (go_simp; with_reducible rfl)
 try simp only [Act.put, zp1, zp2, zp3, zp4, zp5, zp6]
 have ho := opE opsM 20 (by kernel_rfl)
 conv at ho => rhs; arg 1; whnf
 refine tk0 (v := ?_) ho (by kernel_rfl) hS ?_ ?_ <;> clear ho
 rotate_left
 ·intro w' hq hq2; first | (go_simp; done) | (go_simp; with_reducible rfl)
 try simp only [Act.put, zp1, zp2, zp3, zp4, zp5, zp6]
 have ho := opE opsM 21 (by kernel_rfl)
 conv at ho => rhs; arg 1; whnf
 refine tk0 (v := ?_) ho (by kernel_rfl) hS ?_ ?_ <;> clear ho
 rotate_left
 ·intro w' hq hq2; first | (go_simp; done) | (go_simp; with_reducible rfl)
 try simp only [Act.put, zp1, zp2, zp3, zp4, zp5, zp6]
 have ho := opE opsM 22 (by kernel_rfl)
 conv at ho => rhs; arg 1; whnf
 refine tk0 (v := ?_) ho (by kernel_rfl) hS ?_ ?_ <;> clear ho
 rotate_left
 ·intro w' hq hq2; first | (go_simp; done) | (go_simp; with_reducible rfl)
 try simp only [Act.put, zp1, zp2, zp3, zp4, zp5, zp6]
 have ho := opE opsM 23 (by kernel_rfl)
 conv at ho => rhs; arg 1; whnf
 refine tk0 (v := ?_) ho (by kernel_rfl) hS ?_ ?_ <;> clear ho
 rotate_left
 ·intro w' hq hq2; first | (go_simp; done) | (go_simp; with_reducible rfl)
 try simp only [Act.put, zp1, zp2, zp3, zp4, zp5, zp6]
 have ho := opE opsM 24 (by kernel_rfl)
 conv at ho => rhs; arg 1; whnf
 refine tk0 (v := ?_) ho (by kernel_rfl) hS ?_ ?_ <;> clear ho
 rotate_left
 ·intro w' hq hq2; first | (go_simp; done) | (go_simp; with_reducible rfl)
 try simp only [Act.put, zp1, zp2, zp3, zp4, zp5, zp6]
 have ho := opE opsM 25 (by kernel_rfl)
 conv at ho => rhs; arg 1; whnf
 refine tk0 (v := ?_) ho (by kernel_rfl) hS ?_ ?_ <;> clear ho
 rotate_left
 ·intro w' hq hq2; first | (go_simp; done) | (go_simp; with_reducible rfl)
 try simp only [Act.put, zp1, zp2, zp3, zp4, zp5, zp6]
 have ho := opE opsM 26 (by kernel_rfl)
 conv at ho => rhs; arg 1; whnf
 refine tk0 (v := ?_) ho (by kernel_rfl) hS ?_ ?_ <;> clear ho
 rotate_left
 ·intro w' hq hq2; first | (go_simp; done) | (go_simp; with_reducible rfl)
 try simp only [Act.put, zp1, zp2, zp3, zp4, zp5, zp6]
 have ho := opE opsM 27 (by kernel_rfl)
 conv at ho => rhs; arg 1; whnf
 refine tk0 (v := ?_) ho (by kernel_rfl) hS ?_ ?_ <;> clear ho
 rotate_left
 ·intro w' hq hq2; first | (go_simp; done) | (go_simp; with_reducible rfl)
 try simp only [Act.put, zp1, zp2, zp3, zp4, zp5, zp6]
 have ho := opE opsM 28 (by kernel_rfl)
 conv at ho => rhs; arg 1; whnf
 refine tk0 (v := ?_) ho (by kernel_rfl) hS ?_ ?_ <;> clear ho
 rotate_left
 ·intro w' hq hq2; first | (go_simp; done) | (go_simp; with_reducible rfl)
 try simp only [Act.put, zp1, zp2, zp3, zp4, zp5, zp6]
 have ho := opE opsM 29 (by kernel_rfl)
 conv at ho => rhs; arg 1; whnf
 refine tk0 (v := ?_) ho (by kernel_rfl) hS ?_ ?_ <;> clear ho
 rotate_left
 ·intro w' hq hq2; first | (go_simp; done) | (go_simp; with_reducible rfl)
 try simp only [Act.put, zp1, zp2, zp3, zp4, zp5, zp6]
 have ho := opE opsM 30 (by kernel_rfl)
 conv at ho => rhs; arg 1; whnf
 refine tk0 (v := ?_) ho (by kernel_rfl) hS ?_ ?_ <;> clear ho
 rotate_left
 ·intro w' hq hq2; first | (go_simp; done) | (go_simp; with_reducible rfl)
 try simp only [Act.put, zp1, zp2, zp3, zp4, zp5, zp6]
 have ho := opE opsM 31 (by kernel_rfl)
 conv at ho => rhs; arg 1; whnf
 refine tk0 (v := ?_) ho (by kernel_rfl) hS ?_ ?_ <;> clear ho
 rotate_left
 ·intro w' hq hq2; first | (go_simp; done) | (go_simp; with_reducible rfl)
 try simp only [Act.put, zp1, zp2, zp3, zp4, zp5, zp6]
 have ho := opE opsM 32 (by kernel_rfl)
 conv at ho => rhs; arg 1; whnf
 refine tk0 (v := ?_) ho (by kernel_rfl) hS ?_ ?_ <;> clear ho
 rotate_left
 ·intro w' hq hq2; first | (go_simp; done) | (go_simp; with_reducible rfl)
 try simp only [Act.put, zp1, zp2, zp3, zp4, zp5, zp6]
 have ho := opE opsM 33 (by kernel_rfl)
 conv at ho => rhs; arg 1; whnf
 refine tk0 (v := ?_) ho (by kernel_rfl) hS ?_ ?_ <;> clear ho
 rotate_left
 ·intro w' hq hq2; first | (go_simp; done) | (go_simp; with_reducible rfl)
 try simp only [Act.put, zp1, zp2, zp3, zp4, zp5, zp6]
 have ho := opE opsM 34 (by kernel_rfl)
 conv at ho => rhs; arg 1; whnf
 refine tk0 (v := ?_) ho (by kernel_rfl) hS ?_ ?_ <;> clear ho
 rotate_left
 ·intro w' hq hq2; first | (go_simp; done) | (go_simp; with_reducible rfl)
 try simp only [Act.put, zp1, zp2, zp3, zp4, zp5, zp6]
 have ho := opE opsM 35 (by kernel_rfl)
 conv at ho => rhs; arg 1; whnf
 refine tk0 (v := ?_) ho (by kernel_rfl) hS ?_ ?_ <;> clear ho
 rotate_left
 ·intro w' hq hq2; first | (go_simp; done) | (go_simp; with_reducible rfl)
 try simp only [Act.put, zp1, zp2, zp3, zp4, zp5, zp6]
 have ho := opE opsM 36 (by kernel_rfl)
 conv at ho => rhs; arg 1; whnf
 refine tk0 (v := ?_) ho (by kernel_rfl) hS ?_ ?_ <;> clear ho
 rotate_left
 ·intro w' hq hq2; first | (go_simp; done) | (go_simp; with_reducible rfl)
 try simp only [Act.put, zp1, zp2, zp3, zp4, zp5, zp6]
 have ho := opE opsM 37 (by kernel_rfl)
 conv at ho => rhs; arg 1; whnf
 refine tk0 (v := ?_) ho (by kernel_rfl) hS ?_ ?_ <;> clear ho
 rotate_left
 ·intro w' hq hq2; first | (go_simp; done) | (go_simp; with_reducible rfl)
 try simp only [Act.put, zp1, zp2, zp3, zp4, zp5, zp6]
 have ho := opE opsM 38 (by kernel_rfl)
 conv at ho => rhs; arg 1; whnf
 refine tk0 (v := ?_) ho (by kernel_rfl) hS ?_ ?_ <;> clear ho
 rotate_left
 ·intro w' hq hq2; first | (go_simp; done) | (go_simp; with_reducible rfl)
 try simp only [Act.put, zp1, zp2, zp3, zp4, zp5, zp6]
 have ho := opE opsM 39 (by kernel_rfl)
 conv at ho => rhs; arg 1; whnf
 refine tk0 (v := ?_) ho (by kernel_rfl) hS ?_ ?_ <;> clear ho
 rotate_left
 ·intro w' hq hq2; first | (go_simp; done) | (go_simp; with_reducible rfl)
 try simp only [Act.put, zp1, zp2, zp3, zp4, zp5, zp6]
 have ho := opE opsM 40 (by kernel_rfl)
 conv at ho => rhs; arg 1; whnf
 refine tk0 (v := ?_) ho (by kernel_rfl) hS ?_ ?_ <;> clear ho
 rotate_left
 ·intro w' hq hq2; first | (go_simp; done) | (go_simp; with_reducible rfl)
 try simp only [Act.put, zp1, zp2, zp3, zp4, zp5, zp6]
 have ho := opE opsM 41 (by kernel_rfl)
 conv at ho => rhs; arg 1; whnf
 refine tk0 (v := ?_) ho (by kernel_rfl) hS ?_ ?_ <;> clear ho
 rotate_left
 ·intro w' hq hq2; first | (go_simp; done) | (go_simp; with_reducible rfl)
 try simp only [Act.put, zp1, zp2, zp3, zp4, zp5, zp6]
 have ho := opE opsM 42 (by kernel_rfl)
 conv at ho => rhs; arg 1; whnf
 refine tk0 (v := ?_) ho (by kernel_rfl) hS ?_ ?_ <;> clear ho
 rotate_left
 ·intro w' hq hq2; first | (go_simp; done) | (go_simp; with_reducible rfl)
 try simp only [Act.put, zp1, zp2, zp3, zp4, zp5, zp6]
 have ho := opE opsM 43 (by kernel_rfl)
 conv at ho => rhs; arg 1; whnf
 refine tk0 (v := ?_) ho (by kernel_rfl) hS ?_ ?_ <;> clear ho
 rotate_left
 ·intro w' hq hq2; first | (go_simp; done) | (go_simp; with_reducible rfl)
 try simp only [Act.put, zp1, zp2, zp3, zp4, zp5, zp6]
 have ho := opE opsM 44 (by kernel_rfl)
 conv at ho => rhs; arg 1; whnf
 refine tk0 (v := ?_) ho (by kernel_rfl) hS ?_ ?_ <;> clear ho
 rotate_left
 ·intro w' hq hq2; first | (go_simp; done) | (go_simp; with_reducible rfl)
 try simp only [Act.put, zp1, zp2, zp3, zp4, zp5, zp6]
 have ho := opE opsM 45 (by kernel_rfl)
 conv at ho => rhs; arg 1; whnf
 refine tk0 (v := ?_) ho (by kernel_rfl) hS ?_ ?_ <;> clear ho
 rotate_left
 ·intro w' hq hq2; first | (go_simp; done) | (go_simp; with_reducible rfl)
 try simp only [Act.put, zp1, zp2, zp3, zp4, zp5, zp6]
 have ho := opE opsM 46 (by kernel_rfl)
 conv at ho => rhs; arg 1; whnf
 refine tk0 (v := ?_) ho (by kernel_rfl) hS ?_ ?_ <;> clear ho
 rotate_left
 ·intro w' hq hq2; first | (go_simp; done) | (go_simp; with_reducible rfl)
 try simp only [Act.put, zp1, zp2, zp3, zp4, zp5, zp6]
 have ho := opE opsM 47 (by kernel_rfl)
 conv at ho => rhs; arg 1; whnf
 refine tk0 (v := ?_) ho (by kernel_rfl) hS ?_ ?_ <;> clear ho
 rotate_left
 ·intro w' hq hq2; first | (go_simp; done) | (go_simp; with_reducible rfl)
 try simp only [Act.put, zp1, zp2, zp3, zp4, zp5, zp6]
 have ho := opE opsM 48 (by kernel_rfl)
 conv at ho => rhs; arg 1; whnf
 refine tk0 (v := ?_) ho (by kernel_rfl) hS ?_ ?_ <;> clear ho
 rotate_left
 ·intro w' hq hq2; first | (go_simp; done) | (go_simp; with_reducible rfl)
 try simp only [Act.put, zp1, zp2, zp3, zp4, zp5, zp6]
 have ho := opE opsM 49 (by kernel_rfl)
 conv at ho => rhs; arg 1; whnf
 refine tk0 (v := ?_) ho (by kernel_rfl) hS ?_ ?_ <;> clear ho
 rotate_left
 ·intro w' hq hq2; first | (go_simp; done) | (go_simp; with_reducible rfl)
 try simp only [Act.put, zp1, zp2, zp3, zp4, zp5, zp6]
 have ho := opE opsM 50 (by kernel_rfl)
 conv at ho => rhs; arg 1; whnf
 refine tk0 (v := ?_) ho (by kernel_rfl) hS ?_ ?_ <;> clear ho
 rotate_left
 ·intro w' hq hq2; first | (go_simp; done) | (go_simp; with_reducible rfl)
 try simp only [Act.put, zp1, zp2, zp3, zp4, zp5, zp6]
 have ho := opE opsM 51 (by kernel_rfl)
 conv at ho => rhs; arg 1; whnf
 refine tk0 (v := ?_) ho (by kernel_rfl) hS ?_ ?_ <;> clear ho
 rotate_left
 ·intro w' hq hq2; first | (go_simp; done) | (go_simp; with_reducible rfl)
 try simp only [Act.put, zp1, zp2, zp3, zp4, zp5, zp6]
 have ho := opE opsM 52 (by kernel_rfl)
 conv at ho => rhs; arg 1; whnf
 refine tk0 (v := ?_) ho (by kernel_rfl) hS ?_ ?_ <;> clear ho
 rotate_left
 ·intro w' hq hq2; first | (go_simp; done) | (go_simp; with_reducible rfl)
 try simp only [Act.put, zp1, zp2, zp3, zp4, zp5, zp6]
 have ho := opE opsM 53 (by kernel_rfl)
 conv at ho => rhs; arg 1; whnf
 refine tk0 (v := ?_) ho (by kernel_rfl) hS ?_ ?_ <;> clear ho
 rotate_left
 ·intro w' hq hq2; first | (go_simp; done) | (go_simp; with_reducible rfl)
 try simp only [Act.put, zp1, zp2, zp3, zp4, zp5, zp6]
 have ho := opE opsM 54 (by kernel_rfl)
 conv at ho => rhs; arg 1; whnf
 refine tk0 (v := ?_) ho (by kernel_rfl) hS ?_ ?_ <;> clear ho
 rotate_left
 ·intro w' hq hq2; first | (go_simp; done) | (go_simp; with_reducible rfl)
 try simp only [Act.put, zp1, zp2, zp3, zp4, zp5, zp6]
 have ho := opE opsM 55 (by kernel_rfl)
 conv at ho => rhs; arg 1; whnf
 refine tk0 (v := ?_) ho (by kernel_rfl) hS ?_ ?_ <;> clear ho
 rotate_left
 ·intro w' hq hq2; first | (go_simp; done) | (go_simp; with_reducible rfl)
 try simp only [Act.put, zp1, zp2, zp3, zp4, zp5, zp6]
 have ho := opE opsM 56 (by kernel_rfl)
 conv at ho => rhs; arg 1; whnf
 refine tk0 (v := ?_) ho (by kernel_rfl) hS ?_ ?_ <;> clear ho
 rotate_left
 ·intro w' hq hq2; first | (go_simp; done) | (go_simp; with_reducible rfl)
 try simp only [Act.put, zp1, zp2, zp3, zp4, zp5, zp6]
 have ho := opE opsM 57 (by kernel_rfl)
 conv at ho => rhs; arg 1; whnf
 refine tk0 (v := ?_) ho (by kernel_rfl) hS ?_ ?_ <;> clear ho
 rotate_left
 ·intro w' hq hq2; first | (go_simp; done) | (go_simp; with_reducible rfl)
 try simp only [Act.put, zp1, zp2, zp3, zp4, zp5, zp6]
 have ho := opE opsM 58 (by kernel_rfl)
 conv at ho => rhs; arg 1; whnf
 refine tk0 (v := ?_) ho (by kernel_rfl) hS ?_ ?_ <;> clear ho
 rotate_left
 ·intro w' hq hq2; first | (go_simp; done) | (go_simp; with_reducible rfl)
 try simp only [Act.put, zp1, zp2, zp3, zp4, zp5, zp6]
 have ho := opE opsM 59 (by kernel_rfl)
 conv at ho => rhs; arg 1; whnf
 refine tk0 (v := ?_) ho (by kernel_rfl) hS ?_ ?_ <;> clear ho
 rotate_left
 ·intro w' hq hq2; first | (go_simp; done) | (go_simp; with_reducible rfl)
 try simp only [Act.put, zp1, zp2, zp3, zp4, zp5, zp6]
 have ho := opE opsM 60 (by kernel_rfl)
 conv at ho => rhs; arg 1; whnf
 refine tk0 (v := ?_) ho (by kernel_rfl) hS ?_ ?_ <;> clear ho
 rotate_left
 ·intro w' hq hq2; first | (go_simp; done) | (go_simp; with_reducible rfl)
 try simp only [Act.put, zp1, zp2, zp3, zp4, zp5, zp6]
 have ho := opE opsM 61 (by kernel_rfl)
 conv at ho => rhs; arg 1; whnf
 refine tk0 (v := ?_) ho (by kernel_rfl) hS ?_ ?_ <;> clear ho
 rotate_left
 ·intro w' hq hq2; first | (go_simp; done) | (go_simp; with_reducible rfl)
 try simp only [Act.put, zp1, zp2, zp3, zp4, zp5, zp6]
 have ho := opE opsM 62 (by kernel_rfl)
 conv at ho => rhs; arg 1; whnf
 refine tk0 (v := ?_) ho (by kernel_rfl) hS ?_ ?_ <;> clear ho
 rotate_left
 ·intro w' hq hq2; first | (go_simp; done) | (go_simp; with_reducible rfl)
 try simp only [Act.put, zp1, zp2, zp3, zp4, zp5, zp6]
 have ho := opE opsM 15 (by kernel_rfl)
 conv at ho => rhs; arg 1; whnf
 rename _ => ho1
 have ho := opE opsM 64 (by kernel_rfl)
 conv at ho => rhs; arg 1; whnf
 refine wpAnyH_ready (rs := [15, 64]) (by kernel_rfl) (by simp) ?_
 refine AllReadyH.cons ho1 (fun K hK => ?_) (AllReadyH.cons ho (fun K hK => ?_) AllReadyH.nil)
 all_goals clear ho ho1
 ·go_simp
  go_at_call 76
  refine (Hcl.out _ hS.1.2).mono ?_
  have hSz := hS.1.2.size
  rintro e w1 ⟨A', c', rfl, ha1, ha2, hsl, hk⟩
  try dsimp only
  refine hK.out _ _ ?_ (fun hS => ?_)
  ·exact HkeepL.out _ _ (by assumption) hk
  clear hK K
  try simp only [Act.put, zp1, zp2, zp3, zp4, zp5, zp6]
  have ho := opE opsM 16 (by kernel_rfl)
  conv at ho => rhs; arg 1; whnf
  rename _ => ho1
  have ho := opE opsM 64 (by kernel_rfl)
  conv at ho => rhs; arg 1; whnf
  refine wpAnyH_ready (rs := [16, 64]) (by kernel_rfl) (by simp) ?_
  refine AllReadyH.cons ho1 (fun K hK => ?_) (AllReadyH.cons ho (fun K hK => ?_) AllReadyH.nil)
  all_goals clear ho ho1
  ·go_simp
   go_at_call 75
   refine (clip75 _ _ _ ha1 ha2 _).mono ?_
   rintro e w2 ⟨rfl, rfl⟩
   try dsimp only
   refine hK.out _ _ ?_ (fun hS => ?_)
   ·assumption
   clear hK K
   try simp only [Act.put, zp1, zp2, zp3, zp4, zp5, zp6]
   have ho := opE opsM 63 (by kernel_rfl)
   conv at ho => rhs; arg 1; whnf
   refine tk0 (v := ?_) ho (by kernel_rfl) hS ?_ ?_ <;> clear ho
   rotate_left
   ·intro w' hq hq2; first | (go_simp; done) | (go_simp; with_reducible rfl)
   try simp only [Act.put, zp1, zp2, zp3, zp4, zp5, zp6]
   have hS0 := hS
   have ho := opE opsM 64 (by kernel_rfl)
   conv at ho => rhs; arg 1; whnf
   refine wpAnyH_ready (rs := [64]) (by kernel_rfl) (by simp) ?_
   refine AllReadyH.cons ho (fun K hK => ?_) AllReadyH.nil
   clear ho
   go_simp
   try dsimp only
   refine hK.out _ _ ?_ (fun hS => ?_)
   ·exact HkeepL.out _ _ (by assumption) (by go_grown)
   clear hK K
   try simp only [Act.put, zp1, zp2, zp3, zp4, zp5, zp6]
   have ho := opE opsM 65 (by kernel_rfl)
   conv at ho => rhs; arg 1; whnf
   refine wpAnyH_ready (rs := [65]) (by kernel_rfl) (by simp) ?_
   refine AllReadyH.cons ho (fun K hK => ?_) AllReadyH.nil
   clear ho
   rw [if_pos (by kernel_rfl)]
   refine wp_store_row 59 (.tmp 8) (.tmp 148) rfl (w1.heap.size) #[.int .u8 k, .int .u8 s.g.report, .int .i64 s.opn, .slice A' s.usages.length s.usages.length, .int .i64 s.g.lo, .int .i64 s.g.hi, .int .i64 s.g.size, .int .i64 s.g.count, .int .i64 B, .bool b1, .bool b2, .bool (decide (s.g.lo < 0)), .bool b4] (by rfl) (by rfl) 59 _ (heap_at _ rfl) (by kernel_rfl) (by rfl) (by simp [Value.oneCell']) ?_
   have k8 := hS.1.2
   have hGW : W.heap.size ≤ w1.heap.size := by exact hS0.1.2.size
   have k9 : Kept W ((w1.alloc (.cells #[.int .u8 0, .int .u8 0, .int .i64 0, .slice none 0 0, .int .i64 0, .int .i64 0, .int .i64 0, .int .i64 0, .int .i64 0, .bool false, .bool false, .bool false, .bool false] 59)).setRow (w1.heap.size) #[.int .u8 k, .int .u8 s.g.report, .int .i64 s.opn, .slice A' s.usages.length s.usages.length, .int .i64 s.g.lo, .int .i64 s.g.hi, .int .i64 s.g.size, .int .i64 s.g.count, .int .i64 B, .bool b1, .bool b2, .bool (decide (s.g.lo < 0)), .bool b4]) := kept_row k8 hGW _
   refine hK.out _ _ ?_ (fun hS => ?_)
   ·exact ⟨⟨(bcell k9).1, k9⟩, Hlk.out _ k9⟩
   clear hK K
   refine wpAnyH_done (by kernel_rfl) ?_ _
   refine hK0 _ _ ?_
   exact field_tail (G := w1.heap.size) (Hr.out.kept k9) Hb.out (HkW.out.trans' k9) Hold.out Hs.out k Hk0.out x c1 c2 c3 c4 C5.out C6.out (heap_kept k9 Hkb.out) HB.out Hb1.out Hb2.out Hb4.out (heap_row (heap_at _ rfl)) (Nat.le_trans HkW.out.size hGW) (sl_row (hsl.keep (F' := fun g => W.heap.size ≤ g ∧ g < (w1.alloc (.cells #[.int .u8 0, .int .u8 0, .int .i64 0, .slice none 0 0, .int .i64 0, .int .i64 0, .int .i64 0, .int .i64 0, .int .i64 0, .bool false, .bool false, .bool false, .bool false] 59)).heap.size ∧ g ≠ w1.heap.size) (fun g hg => ⟨Nat.le_trans hSz hg.1, by have := hg.2; simp; omega, by have := hg.2; omega⟩) (fun b o hb => World.cell?_alloc_lt _ _ _ hb.2)) HkW.out.size) c
  ·have hS0 := hS
   go_simp
   try dsimp only
   refine hK.out _ _ ?_ (fun hS => ?_)
   ·exact HkeepL.out _ _ (by assumption) (by go_grown)
   clear hK K
   try simp only [Act.put, zp1, zp2, zp3, zp4, zp5, zp6]
   have ho := opE opsM 16 (by kernel_rfl)
   conv at ho => rhs; arg 1; whnf
   refine wpAnyH_ready (rs := [16]) (by kernel_rfl) (by simp) ?_
   refine AllReadyH.cons ho (fun K hK => ?_) AllReadyH.nil
   clear ho
   go_simp
   go_at_call 75
   refine (clip75 _ _ _ ha1 ha2 _).mono ?_
   rintro e w2 ⟨rfl, rfl⟩
   try dsimp only
   refine hK.out _ _ ?_ (fun hS => ?_)
   ·assumption
   clear hK K
   try simp only [Act.put, zp1, zp2, zp3, zp4, zp5, zp6]
   have ho := opE opsM 63 (by kernel_rfl)
   conv at ho => rhs; arg 1; whnf
   refine tk0 (v := ?_) ho (by kernel_rfl) hS ?_ ?_ <;> clear ho
   rotate_left
   ·intro w' hq hq2; first | (go_simp; done) | (go_simp; with_reducible rfl)
   try simp only [Act.put, zp1, zp2, zp3, zp4, zp5, zp6]
   have ho := opE opsM 65 (by kernel_rfl)
   conv at ho => rhs; arg 1; whnf
   refine wpAnyH_ready (rs := [65]) (by kernel_rfl) (by simp) ?_
   refine AllReadyH.cons ho (fun K hK => ?_) AllReadyH.nil
   clear ho
   rw [if_pos (by kernel_rfl)]
   refine wp_store_row 59 (.tmp 8) (.tmp 148) rfl (w1.heap.size) #[.int .u8 k, .int .u8 s.g.report, .int .i64 s.opn, .slice A' s.usages.length s.usages.length, .int .i64 s.g.lo, .int .i64 s.g.hi, .int .i64 s.g.size, .int .i64 s.g.count, .int .i64 B, .bool b1, .bool b2, .bool (decide (s.g.lo < 0)), .bool b4] (by rfl) (by rfl) 59 _ (heap_at _ rfl) (by kernel_rfl) (by rfl) (by simp [Value.oneCell']) ?_
   have k8 := hS.1.2
   have hGW : W.heap.size ≤ w1.heap.size := by exact hS0.1.2.size
   have k9 : Kept W ((w1.alloc (.cells #[.int .u8 0, .int .u8 0, .int .i64 0, .slice none 0 0, .int .i64 0, .int .i64 0, .int .i64 0, .int .i64 0, .int .i64 0, .bool false, .bool false, .bool false, .bool false] 59)).setRow (w1.heap.size) #[.int .u8 k, .int .u8 s.g.report, .int .i64 s.opn, .slice A' s.usages.length s.usages.length, .int .i64 s.g.lo, .int .i64 s.g.hi, .int .i64 s.g.size, .int .i64 s.g.count, .int .i64 B, .bool b1, .bool b2, .bool (decide (s.g.lo < 0)), .bool b4]) := kept_row k8 hGW _
   refine hK.out _ _ ?_ (fun hS => ?_)
   ·exact ⟨⟨(bcell k9).1, k9⟩, Hlk.out _ k9⟩
   clear hK K
   refine wpAnyH_done (by kernel_rfl) ?_ _
   refine hK0 _ _ ?_
   exact field_tail (G := w1.heap.size) (Hr.out.kept k9) Hb.out (HkW.out.trans' k9) Hold.out Hs.out k Hk0.out x c1 c2 c3 c4 C5.out C6.out (heap_kept k9 Hkb.out) HB.out Hb1.out Hb2.out Hb4.out (heap_row (heap_at _ rfl)) (Nat.le_trans HkW.out.size hGW) (sl_row (hsl.keep (F' := fun g => W.heap.size ≤ g ∧ g < (w1.alloc (.cells #[.int .u8 0, .int .u8 0, .int .i64 0, .slice none 0 0, .int .i64 0, .int .i64 0, .int .i64 0, .int .i64 0, .int .i64 0, .bool false, .bool false, .bool false, .bool false] 59)).heap.size ∧ g ≠ w1.heap.size) (fun g hg => ⟨Nat.le_trans hSz hg.1, by have := hg.2; simp; omega, by have := hg.2; omega⟩) (fun b o hb => World.cell?_alloc_lt _ _ _ hb.2)) HkW.out.size) c
 ·go_simp
  try dsimp only
  refine hK.out _ _ ?_ (fun hS => ?_)
  ·exact HkeepL.out _ _ (by assumption) (kept_drew_alloc W _)
  clear hK K
  try simp only [Act.put, zp1, zp2, zp3, zp4, zp5, zp6]
  have ho := opE opsM 15 (by kernel_rfl)
  conv at ho => rhs; arg 1; whnf
  refine wpAnyH_ready (rs := [15]) (by kernel_rfl) (by simp) ?_
  refine AllReadyH.cons ho (fun K hK => ?_) AllReadyH.nil
  clear ho
  go_simp
  go_at_call 76
  refine (Hcl.out _ hS.1.2).mono ?_
  rintro e w1 ⟨A', c', rfl, ha1, ha2, hsl, hk⟩
  try dsimp only
  refine hK.out _ _ ?_ (fun hS => ?_)
  ·exact HkeepL.out _ _ (by assumption) hk
  clear hK K
  try simp only [Act.put, zp1, zp2, zp3, zp4, zp5, zp6]
  have ho := opE opsM 16 (by kernel_rfl)
  conv at ho => rhs; arg 1; whnf
  refine wpAnyH_ready (rs := [16]) (by kernel_rfl) (by simp) ?_
  refine AllReadyH.cons ho (fun K hK => ?_) AllReadyH.nil
  clear ho
  go_simp
  go_at_call 75
  refine (clip75 _ _ _ ha1 ha2 _).mono ?_
  rintro e w2 ⟨rfl, rfl⟩
  try dsimp only
  refine hK.out _ _ ?_ (fun hS => ?_)
  ·assumption
  clear hK K
  try simp only [Act.put, zp1, zp2, zp3, zp4, zp5, zp6]
  have ho := opE opsM 63 (by kernel_rfl)
  conv at ho => rhs; arg 1; whnf
  refine tk0 (v := ?_) ho (by kernel_rfl) hS ?_ ?_ <;> clear ho
  rotate_left
  ·intro w' hq hq2; first | (go_simp; done) | (go_simp; with_reducible rfl)
  try simp only [Act.put, zp1, zp2, zp3, zp4, zp5, zp6]
  have ho := opE opsM 65 (by kernel_rfl)
  conv at ho => rhs; arg 1; whnf
  refine wpAnyH_ready (rs := [65]) (by kernel_rfl) (by simp) ?_
  refine AllReadyH.cons ho (fun K hK => ?_) AllReadyH.nil
  clear ho
  rw [if_pos (by kernel_rfl)]
  refine wp_store_row 59 (.tmp 8) (.tmp 148) rfl (W.heap.size) #[.int .u8 k, .int .u8 s.g.report, .int .i64 s.opn, .slice A' s.usages.length s.usages.length, .int .i64 s.g.lo, .int .i64 s.g.hi, .int .i64 s.g.size, .int .i64 s.g.count, .int .i64 B, .bool b1, .bool b2, .bool (decide (s.g.lo < 0)), .bool b4] (by rfl) (by rfl) 59 _ (heap_kept hk (heap_drew (heap_at _ rfl))) (by kernel_rfl) (by rfl) (by simp [Value.oneCell']) ?_
  have k8 := hS.1.2
  have hGW : W.heap.size ≤ W.heap.size := by exact Nat.le_refl _
  have k9 : Kept W ((w1).setRow (W.heap.size) #[.int .u8 k, .int .u8 s.g.report, .int .i64 s.opn, .slice A' s.usages.length s.usages.length, .int .i64 s.g.lo, .int .i64 s.g.hi, .int .i64 s.g.size, .int .i64 s.g.count, .int .i64 B, .bool b1, .bool b2, .bool (decide (s.g.lo < 0)), .bool b4]) := kept_row k8 hGW _
  refine hK.out _ _ ?_ (fun hS => ?_)
  ·exact ⟨⟨(bcell k9).1, k9⟩, Hlk.out _ k9⟩
  clear hK K
  refine wpAnyH_done (by kernel_rfl) ?_ _
  refine hK0 _ _ ?_
  exact field_tail (G := W.heap.size) (Hr.out.kept k9) Hb.out (HkW.out.trans' k9) Hold.out Hs.out k Hk0.out x c1 c2 c3 c4 C5.out C6.out (heap_kept k9 Hkb.out) HB.out Hb1.out Hb2.out Hb4.out (heap_row (heap_kept hk (heap_drew (heap_at _ rfl)))) (Nat.le_trans HkW.out.size hGW) (sl_row (hsl.keep (F' := fun g => W.heap.size ≤ g ∧ g < w1.heap.size ∧ g ≠ W.heap.size) (fun g hg => by have h1 := hg.1; simp at h1; exact ⟨by omega, hg.2, by show g ≠ W.heap.size; omega⟩) (fun b o hb => rfl)) HkW.out.size) c
set_option maxRecDepth 100000 in
theorem field_closed {w : World} {base R m : Nat} {vs vu vf vc : Value} {s : RS} (h : Rd w base R m vs vu vf vc s) (hb : base ≤ w.heap.size) (hs : s.Fine) (k : Int) (x : It) (c : s.opn < 0) :
  Calls Try.prog 60 #[.pointer (some ⟨R, 0, none⟩), .int .u8 k, itV x] w (Did base R m w (fieldS s k x)) := by
 have hE : fieldS s k x = (4, s) := by unfold fieldS; rw [if_pos c]
 rw [hE]
 have c5 : w.cell? ⟨R, 5, none⟩ = some (.int .u32 s.g.report) := cell_heap h.box (o := 5) rfl
 have c10 : w.cell? ⟨R, 10, none⟩ = some (.int .i64 s.opn) := cell_heap h.box (o := 10) rfl
 have hRl := heap_lt h.box
 unfold itV
 go_enter Try.func60, Try.ntmps60
 go_wp2_with fail
 go_ret
 exact ⟨rfl, Fr.kept (by go_grown) hb, fun e => by cases e⟩
set_option maxRecDepth 100000 in
theorem field_small {w : World} {base R m : Nat} {vs vu vf vc : Value} {s : RS} (h : Rd w base R m vs vu vf vc s) (hb : base ≤ w.heap.size) (hs : s.Fine) (k : Int) (x : It) (c : ¬ s.opn < 0) (c1 : s.g.size < 1) :
  Calls Try.prog 60 #[.pointer (some ⟨R, 0, none⟩), .int .u8 k, itV x] w (Did base R m w (fieldS s k x)) := by
 have hE : fieldS s k x = (3, s) := by unfold fieldS; rw [if_neg c, if_pos (.inl c1)]
 rw [hE]
 have c' : 0 ≤ s.opn := by omega
 have c3 : w.cell? ⟨R, 3, none⟩ = some (.int .u32 s.g.size) := cell_heap h.box (o := 3) rfl
 have c5 : w.cell? ⟨R, 5, none⟩ = some (.int .u32 s.g.report) := cell_heap h.box (o := 5) rfl
 have c10 : w.cell? ⟨R, 10, none⟩ = some (.int .i64 s.opn) := cell_heap h.box (o := 10) rfl
 have hRl := heap_lt h.box
 unfold itV
 go_enter Try.func60, Try.ntmps60
 go_upto_region 4 with (fail)
 go_quiet (fail)
 go_wp2_with fail
 go_ret
 exact ⟨rfl, Fr.kept (below_drewN (by go_grown) _) hb, fun e => by cases e⟩
set_option maxRecDepth 100000 in
theorem field_wide {w : World} {base R m : Nat} {vs vu vf vc : Value} {s : RS} (h : Rd w base R m vs vu vf vc s) (hb : base ≤ w.heap.size) (hs : s.Fine) (k : Int) (x : It) (c : ¬ s.opn < 0) (c1 : 32 < s.g.size) :
  Calls Try.prog 60 #[.pointer (some ⟨R, 0, none⟩), .int .u8 k, itV x] w (Did base R m w (fieldS s k x)) := by
 have hE : fieldS s k x = (3, s) := by unfold fieldS; rw [if_neg c, if_pos (.inr (.inl c1))]
 rw [hE]
 clear hE
 have d1 : decide (s.g.size < 1) = false := decide_eq_false (by omega)
 have c' : 0 ≤ s.opn := by omega
 have hRl := heap_lt h.box
 have hml : m < w.heap.size := Nat.lt_of_lt_of_le h.low.2.1 hb
 have hrp := hs.report
 have hwr : IntKind.u8.wrap s.g.report = s.g.report := by rw [IntKind.wrap_u8]; omega
 have c5 : w.cell? ⟨R, 5, none⟩ = some (.int .u32 s.g.report) := cell_heap h.box (o := 5) rfl
 have c10 : w.cell? ⟨R, 10, none⟩ = some (.int .i64 s.opn) := cell_heap h.box (o := 10) rfl
 unfold itV
 go_enter Try.func60, Try.ntmps60
 go_upto_region 4 with (fail)
 refine wp_at (fun W => Rd W base R m vs vu vf vc s ∧ W.heap[w.heap.size + 1]? = some (.cells #[.int .u8 k, .int .u8 s.g.report] 90 (0, 0)) ∧ W.heap[w.heap.size]? = some (.cells #[.int .u8 x.ty, .int .u8 x.tg, .int .i64 x.size, .int .u32 x.data] 29 (0, 0)) ∧ Kept w W ∧ W.heap.size = w.heap.size + 2) ⟨h.kept (by go_grown), heap_at _ (by simp), heap_past (heap_at _ rfl), by go_grown, by simp⟩ (fun W hW => ?_)
 obtain ⟨hr, hb1, hb2, hkW, hz⟩ := hW
 clear c5 c10
 have c3 : W.cell? ⟨R, 3, none⟩ = some (.int .u32 s.g.size) := cell_heap hr.box (o := 3) rfl
 have c4 : W.cell? ⟨R, 4, none⟩ = some (.int .u32 s.g.count) := cell_heap hr.box (o := 4) rfl
 have c5 : W.cell? ⟨R, 5, none⟩ = some (.int .u32 s.g.report) := cell_heap hr.box (o := 5) rfl
 have Hkw := hide hkW
 clear hkW hz hb1 hb2 hr hrp hs hml
 go_quiet (fail)
 go_wp2_with fail
 go_ret
 exact ⟨rfl, Fr.kept (below_drewN Hkw.out _) hb, fun e => by cases e⟩
set_option maxRecDepth 100000 in
theorem field_none {w : World} {base R m : Nat} {vs vu vf vc : Value} {s : RS} (h : Rd w base R m vs vu vf vc s) (hb : base ≤ w.heap.size) (hs : s.Fine) (k : Int) (x : It) (c : ¬ s.opn < 0) (c1 : 1 ≤ s.g.size ∧ s.g.size ≤ 32) (c2 : s.g.count < 1) :
  Calls Try.prog 60 #[.pointer (some ⟨R, 0, none⟩), .int .u8 k, itV x] w (Did base R m w (fieldS s k x)) := by
 have hE : fieldS s k x = (3, s) := by unfold fieldS; rw [if_neg c, if_pos (.inr (.inr (.inl c2)))]
 rw [hE]
 clear hE
 have d1 : decide (s.g.size < 1) = false := decide_eq_false (by omega)
 have d2 : decide (32 < s.g.size) = false := decide_eq_false (by omega)
 clear c1
 have c' : 0 ≤ s.opn := by omega
 have hRl := heap_lt h.box
 have hml : m < w.heap.size := Nat.lt_of_lt_of_le h.low.2.1 hb
 have hrp := hs.report
 have hwr : IntKind.u8.wrap s.g.report = s.g.report := by rw [IntKind.wrap_u8]; omega
 have c5 : w.cell? ⟨R, 5, none⟩ = some (.int .u32 s.g.report) := cell_heap h.box (o := 5) rfl
 have c10 : w.cell? ⟨R, 10, none⟩ = some (.int .i64 s.opn) := cell_heap h.box (o := 10) rfl
 unfold itV
 go_enter Try.func60, Try.ntmps60
 go_upto_region 4 with (fail)
 refine wp_at (fun W => Rd W base R m vs vu vf vc s ∧ W.heap[w.heap.size + 1]? = some (.cells #[.int .u8 k, .int .u8 s.g.report] 90 (0, 0)) ∧ W.heap[w.heap.size]? = some (.cells #[.int .u8 x.ty, .int .u8 x.tg, .int .i64 x.size, .int .u32 x.data] 29 (0, 0)) ∧ Kept w W ∧ W.heap.size = w.heap.size + 2) ⟨h.kept (by go_grown), heap_at _ (by simp), heap_past (heap_at _ rfl), by go_grown, by simp⟩ (fun W hW => ?_)
 obtain ⟨hr, hb1, hb2, hkW, hz⟩ := hW
 clear c5 c10
 have c3 : W.cell? ⟨R, 3, none⟩ = some (.int .u32 s.g.size) := cell_heap hr.box (o := 3) rfl
 have c4 : W.cell? ⟨R, 4, none⟩ = some (.int .u32 s.g.count) := cell_heap hr.box (o := 4) rfl
 have c5 : W.cell? ⟨R, 5, none⟩ = some (.int .u32 s.g.report) := cell_heap hr.box (o := 5) rfl
 have Hkw := hide hkW
 clear hkW hz hb1 hb2 hr hrp hs hml
 go_quiet (fail)
 go_wp2_with fail
 go_ret
 exact ⟨rfl, Fr.kept (below_drewN Hkw.out _) hb, fun e => by cases e⟩
end Go.Proofs.Ytegdigfcgeoboaa
