/- The law of the chapter on reports, part 8: Fc Fd. -/
import Derived.Test.YtegdigfcgeoboaaK7
set_option maxHeartbeats 16000000
set_option linter.unusedVariables false
set_option linter.unusedSimpArgs false
set_option linter.unusedSectionVars false
namespace Go.Proofs.Ytegdigfcgeoboaa
open Go.RowKit Go.Maps
attribute [local go_sem ↓] Go.wp_at_zero Go.wp_at_succ
variable {u2 u3 u4 u6 u9 gI kI gJ jY eG eH u16 eE eF dX dY dZ eA eB eC eD eI eJ eK eL eM eN u32 eO eP iN iO iP iQ iR fK iS iT iU iV iW iX gK gL gM gN gO gP gQ gR gS gT iY iZ jA jB jC jD jE u64 jF jG jH jJ jK jL jM jN jO jP jQ jR jZ kE kF kG kH jS jT jU jV jW jX kJ kK kM kN kO kP kQ kR kS kT kU kV aK aG aA aB aC aD aE aF aH aI aJ aL bC bD bE bF bG bH bI bJ bK bL aR aM aN aO aP aQ aS aT aU aV aW aX aY aZ bA bM bN bP bQ bS bR bT bU bV bW bX cW cX cY cZ dA dB dC dD dE dF dG dH dI dJ dK dL dM dN bY bZ cA cB cC cD cE cF cG cH cI cJ cK cM cN cO cP cQ cR cS cT cU cV : Value}
set_option maxRecDepth 1000000 in
theorem field_put {w W : World} {base R m ib kb G : Nat} {vs vu vf vc : Value} {s : RS} (hr : Rd W base R m vs vu vf vc s) (hb : base ≤ w.heap.size) (hkW : Kept w W) (hold : OldB w vs vu vf vc) (hs : s.Fine) (k : Int) (hk0 : 1 ≤ k ∧ k ≤ 3) (x : It)
  (c1 : 1 ≤ s.g.size) (c2 : s.g.size ≤ 32) (c3 : 1 ≤ s.g.count) (c4 : s.g.count ≤ 256) (c5 : bitsS s.fields k s.g.report + s.g.size * s.g.count ≤ 4096) (c6 : s.fields.length < 256)
  (hkb : W.heap[kb]? = some (.cells #[.int .u8 k, .int .u8 s.g.report] 90 (0, 0))) {B : Int} {b1 b2 b4 : Bool} {A' : Option Addr} (hB : bitsS s.fields k s.g.report = B) (hb1 : (x.data % 2 == 1) = b1) (hb2 : (x.data / 2 % 2 == 0) = b2) (hb4 : (x.data / 4 % 2 == 1) = b4)
  (hG : W.heap[G]? = some (.cells #[.int .u8 k, .int .u8 s.g.report, .int .i64 s.opn, .slice A' s.usages.length s.usages.length, .int .i64 s.g.lo, .int .i64 s.g.hi, .int .i64 s.g.size, .int .i64 s.g.count, .int .i64 B, .bool b1, .bool b2, .bool (decide (s.g.lo < 0)), .bool b4] 59 (0, 0))) (hGw : w.heap.size ≤ G) (hsl : Sl u32T W (fun g => w.heap.size ≤ g ∧ g < W.heap.size ∧ g ≠ G) A' s.usages.length s.usages) (hP : fieldS s k x = (0, { s with fields := s.fields ++ [fieldOf s k x] }))
  (K0 : Act → World → Prop) (hK0 : ∀ a w', Code.wp Try.prog (restC codeP) (bodyPost Try.prog Try.f60 (Did base R m w (fieldS s k x))) a w' → K0 a w') :
  Code.wp Try.prog (headC codeP) (Exit.then K0 (bodyPost Try.prog Try.f60 (Did base R m w (fieldS s k x)))) ⟨#[.pointer (some ⟨R, 0, none⟩), .int .u8 k, u2, u3, u4, .pointer (some ⟨ib, 0, none⟩), u6, .pointer (some ⟨kb, 0, none⟩), .pointer (some ⟨G, 0, none⟩), u9, gI, kI, gJ, jY, eG, eH, u16, eE, eF, dX, dY, dZ, eA, eB, eC, eD, eI, eJ, eK, eL, eM, eN, u32, eO, eP, iN, iO, iP, iQ, iR, fK, iS, iT, iU, iV, iW, iX, gK, gL, gM, gN, gO, gP, gQ, gR, gS, gT, iY, iZ, jA, jB, jC, jD, jE, u64, jF, jG, jH, jJ, jK, jL, jM, jN, jO, jP, jQ, jR, jZ, kE, kF, kG, kH, jS, jT, jU, jV, jW, jX, kJ, kK, kM, kN, kO, kP, kQ, kR, kS, kT, kU, kV, aK, aG, aA, aB, aC, aD, aE, aF, aH, aI, aJ, aL, bC, bD, bE, bF, bG, bH, bI, bJ, bK, bL, aR, aM, aN, aO, aP, aQ, aS, aT, aU, aV, aW, aX, aY, aZ, bA, bM, bN, bP, bQ, bS, bR, bT, bU, bV, bW, bX, cW, cX, cY, cZ, dA, dB, dC, dD, dE, dF, dG, dH, dI, dJ, dK, dL, dM, dN, bY, bZ, cA, cB, cC, cD, cE, cF, cG, cH, cI, cJ, cK, cM, cN, cO, cP, cQ, cR, cS, cT, cU, cV], []⟩ W := by
 have hrp := hs.report
 have hrep : s.g.report % 256 = s.g.report := by omega
 have hF : (fieldOf s k x).cells A' = [.int .u8 k, .int .u8 s.g.report, .int .i64 s.opn, .slice A' s.usages.length s.usages.length, .int .i64 s.g.lo, .int .i64 s.g.hi, .int .i64 s.g.size, .int .i64 s.g.count, .int .i64 B, .bool b1, .bool b2, .bool (decide (s.g.lo < 0)), .bool b4] := by
  simp only [Fd.cells, fieldOf, hrep, hB, hb1, hb2, hb4]
 have hRl := heap_lt hr.box
 have hGl := heap_lt hG
 have hkl := heap_lt hkb
 have hml := hr.map_lt
 have hmw : m < w.heap.size := Nat.lt_of_lt_of_le hr.low.2.1 hb
 obtain ⟨f, hmap, hbf⟩ := hr.map
 have hno : ∀ o, W.cell? ⟨m, o, none⟩ = none := fun o => hmap.noCell
 have hRm : ¬ R = m := hr.low.2.2
 have hkm : ¬ kb = m := fun e => by have h1 : W.cell? ⟨kb, 0, none⟩ = _ := cell_heap hkb (o := 0) rfl; rw [e, hno] at h1; cases h1
 have hGm : ¬ G = m := by omega
 have hkey := key_pair (a := k) (b := s.g.report) ⟨by omega, by omega⟩ (show u8k s.g.report by unfold u8k; omega)
 obtain ⟨v0, st, w1, he, hg1, hst⟩ := (hmap.keep (w' := W.drew) ((Below.refl _ _).drew)).entry law90 keyed90 Try.underlying81 zero3 (show s.fields.length < maxLen by unfold maxLen; omega) hkey
 have hlkB : (Instr.lookup 81 (.map (some m)) (.agg #[.int .u8 k, .int .u8 s.g.report]) false).run Try.prog w1 = .ok (.int .i64 B) w1 := by
  have h1 := (hmap.keep (w' := W.drew) ((Below.refl _ _).drew)).entryLook law90 keyed90 Try.underlying81 zero3 (show s.fields.length < maxLen by unfold maxLen; omega) hkey he w1 rfl
  rw [hbf k s.g.report hk0 (by unfold u8k; omega), hB] at h1
  exact h1
 have hlkA : (Instr.lookup 81 (.map (some m)) (.agg #[.int .u8 k, .int .u8 s.g.report]) false).run Try.prog W.drew = .ok (.int .i64 B) W.drew := by
  rw [← hB]; exact hr.look (w' := W.drew) (r := s.g.report) rfl hk0 (by unfold u8k; omega)
 obtain ⟨P, hPP⟩ : ∃ P, s.g.size * s.g.count = P := ⟨_, rfl⟩
 have hb0 := hs.bits k s.g.report
 rw [hB] at hb0
 rw [hB, hPP] at c5
 have hP1 : 1 ≤ P ∧ P ≤ 8192 := by
  rw [← hPP]
  have h1 : s.g.size * s.g.count ≤ 32 * s.g.count := Int.mul_le_mul_of_nonneg_right (by omega) (by omega)
  have h2 : 1 * s.g.count ≤ s.g.size * s.g.count := Int.mul_le_mul_of_nonneg_right (by omega) (by omega)
  omega
 have hw2 : IntKind.i64.wrap (s.g.size * s.g.count) = P := by rw [hPP, IntKind.wrap_i64]; omega
 have hw3 : IntKind.i64.wrap (B + P) = B + P := by rw [IntKind.wrap_i64]; omega
 obtain ⟨w3, hs3, hg3, hm3⟩ := hst w1 (.int .i64 (B + P)) rfl
 have hs3' : (Instr.entryStore 81 (.map (some m)) (.int .i64 st) (.int .i64 (B + P))).run Try.prog w1 = .ok () w3 := hs3
 have he' : (Instr.mapEntry 81 (.map (some m)) (.agg #[.int .u8 k, .int .u8 s.g.report])).run Try.prog W.drew = .ok (.tuple #[v0, .int .i64 st]) w1 := he
 have hgW : W.grownBy w3 (some m) := ⟨hg3.os.trans hg1.os, hg3.tape.trans hg1.tape, hg3.output.trans hg1.output, Nat.le_trans hg1.size hg3.size, fun j hj hne => (hg3.block j (Nat.lt_of_lt_of_le hj hg1.size) hne).trans (hg1.block j hj hne)⟩
 have hM3 : RdM w3 base R m vs vu vf vc s (s.fields ++ [fieldOf s k x]) := hr.mapTo hgW ⟨_, by rw [List.length_append]; exact hm3, by
  have h1 := bitsF_put hbf (F := fieldOf s k x) hk0 (show u8k (s.g.report % 256) by unfold u8k; omega) (n := B + P) (by rw [← hB, ← hPP]; show _ = bitsS s.fields k (s.g.report % 256) + s.g.size * s.g.count; rw [hrep])
  have e : kL (fieldOf s k x).kind (fieldOf s k x).report = kL k s.g.report := by show kL k (s.g.report % 256) = _; rw [hrep]
  rw [e] at h1
  exact h1⟩
 have hfr3 : Fr base R m w w3 := (Fr.kept hkW hb).trans ⟨hgW.os, hgW.tape, hgW.output, hgW.size, fun j h1 h2 h3 => hgW.block j (Nat.lt_of_lt_of_le h1 (Nat.le_trans hb hkW.size)) (fun e => h3 (by injection e)), fun j cs _ h2 h3 => (hgW.block j (heap_lt h3) (fun e => h2 (by injection e))).trans h3⟩
 have hG3 := (hgW.block G hGl (fun e => hGm (by injection e))).trans hG
 have hsl3 : Sl u32T w3 (fun g => w.heap.size ≤ g ∧ g < w3.heap.size ∧ g ≠ G) A' s.usages.length s.usages := hsl.keep (fun g hg => ⟨hg.1, Nat.lt_of_lt_of_le hg.2.1 hgW.size, hg.2.2⟩) (fun b o hb1 => World.cell?_of_block (a := ⟨b, o, none⟩) (hgW.block b hb1.2.1 (fun e => by injection e with e; have h4 := hb1.1; omega)))
 have Hfin := hide (show _ ∧ _ ∧ _ ∧ _ ∧ _ ∧ _ ∧ _ ∧ _ ∧ _ ∧ _ ∧ _ from ⟨hM3, hfr3, hb, hold, c6, hs.usages.1, hP, hF, hG3, hGw, hsl3⟩)
 have c11 : W.cell? ⟨R, 11, none⟩ = some (.map (some m)) := cell_heap hr.box (o := 11) rfl
 have k0 : W.cell? ⟨kb, 0, none⟩ = some (.int .u8 k) := cell_heap hkb (o := 0) rfl
 have k1 : W.cell? ⟨kb, 1, none⟩ = some (.int .u8 s.g.report) := cell_heap hkb (o := 1) rfl
 have g6 : W.cell? ⟨G, 6, none⟩ = some (.int .i64 s.g.size) := cell_heap hG (o := 6) rfl
 have g7 : W.cell? ⟨G, 7, none⟩ = some (.int .i64 s.g.count) := cell_heap hG (o := 7) rfl
 have hS1 : ∀ b o, b < W.heap.size → ¬ b = m → w1.cell? ⟨b, o, none⟩ = W.cell? ⟨b, o, none⟩ := fun b o h1 h2 => World.cell?_of_block (a := ⟨b, o, none⟩) (hg1.block b h1 (fun e => h2 (by injection e)))
 have hS3 : ∀ b o, b < W.heap.size → ¬ b = m → w3.cell? ⟨b, o, none⟩ = W.cell? ⟨b, o, none⟩ := fun b o h1 h2 => World.cell?_of_block (a := ⟨b, o, none⟩) (hgW.block b h1 (fun e => h2 (by injection e)))
 have HS1 := hide hS1
 have HS3 := hide hS3
 clear hS1 hS3 hsl3 hG3 hfr3 hM3 hgW hs3 he hg1 hg3 hm3 hst hr hb hkW hold hs hk0 hkb hB hb1 hb2 hb4 hG hGw hsl hP hF hno hmap hbf hkey hP1 c5 c6 hPP hb0 hrp hrep
 refine wp_region_held_named (ops' := opsP) (n := 15) (S := fun w' => (∀ b o, b < W.heap.size → ¬ b = m → w'.cell? ⟨b, o, none⟩ = W.cell? ⟨b, o, none⟩) ∧ True) (by kernel_rfl) (by kernel_rfl) (by kernel_rfl) ⟨fun _ _ _ _ => rfl, trivial⟩ (fun hS => ?_)
 have ho := opE opsP 0 (by kernel_rfl)
 conv at ho => rhs; arg 1; whnf
 refine tk0 (v := ?_) ho (by kernel_rfl) hS ?_ ?_ <;> clear ho
 rotate_left
 ·intro w' hq hq2; first | (go_simp; done) | (go_simp; with_reducible rfl)
 try simp only [Act.put, zp1, zp2, zp3, zp4, zp5, zp6]
 have ho := opE opsP 1 (by kernel_rfl)
 conv at ho => rhs; arg 1; whnf
 refine tk0 (v := ?_) ho (by kernel_rfl) hS ?_ ?_ <;> clear ho
 rotate_left
 ·intro w' hq hq2; first | (go_simp; done) | (go_simp; with_reducible rfl)
 try simp only [Act.put, zp1, zp2, zp3, zp4, zp5, zp6]
 have ho := opE opsP 2 (by kernel_rfl)
 conv at ho => rhs; arg 1; whnf
 refine tk0 (v := ?_) ho (by kernel_rfl) hS ?_ ?_ <;> clear ho
 rotate_left
 ·intro w' hq hq2; first | (go_simp; done) | (go_simp; with_reducible rfl)
 try simp only [Act.put, zp1, zp2, zp3, zp4, zp5, zp6]
 have ho := opE opsP 3 (by kernel_rfl)
 conv at ho => rhs; arg 1; whnf
 refine tk0 (v := ?_) ho (by kernel_rfl) hS ?_ ?_ <;> clear ho
 rotate_left
 ·intro w' hq hq2; first | (go_simp; done) | (go_simp; with_reducible rfl)
 try simp only [Act.put, zp1, zp2, zp3, zp4, zp5, zp6]
 have ho := opE opsP 4 (by kernel_rfl)
 conv at ho => rhs; arg 1; whnf
 refine tk0 (v := ?_) ho (by kernel_rfl) hS ?_ ?_ <;> clear ho
 rotate_left
 ·intro w' hq hq2; first | (go_simp; done) | (go_simp; with_reducible rfl)
 try simp only [Act.put, zp1, zp2, zp3, zp4, zp5, zp6]
 have ho := opE opsP 6 (by kernel_rfl)
 conv at ho => rhs; arg 1; whnf
 refine tk0 (v := ?_) ho (by kernel_rfl) hS ?_ ?_ <;> clear ho
 rotate_left
 ·intro w' hq hq2; first | (go_simp; done) | (go_simp; with_reducible rfl)
 try simp only [Act.put, zp1, zp2, zp3, zp4, zp5, zp6]
 have ho := opE opsP 7 (by kernel_rfl)
 conv at ho => rhs; arg 1; whnf
 refine tk0 (v := ?_) ho (by kernel_rfl) hS ?_ ?_ <;> clear ho
 rotate_left
 ·intro w' hq hq2; first | (go_simp; done) | (go_simp; with_reducible rfl)
 try simp only [Act.put, zp1, zp2, zp3, zp4, zp5, zp6]
 have ho := opE opsP 8 (by kernel_rfl)
 conv at ho => rhs; arg 1; whnf
 refine tk0 (v := ?_) ho (by kernel_rfl) hS ?_ ?_ <;> clear ho
 rotate_left
 ·intro w' hq hq2; first | (go_simp; done) | (go_simp; with_reducible rfl)
 try simp only [Act.put, zp1, zp2, zp3, zp4, zp5, zp6]
 have ho := opE opsP 9 (by kernel_rfl)
 conv at ho => rhs; arg 1; whnf
 refine tk0 (v := ?_) ho (by kernel_rfl) hS ?_ ?_ <;> clear ho
 rotate_left
 ·intro w' hq hq2; first | (go_simp; done) | (go_simp; with_reducible rfl)
 try simp only [Act.put, zp1, zp2, zp3, zp4, zp5, zp6]
 have ho := opE opsP 10 (by kernel_rfl)
 conv at ho => rhs; arg 1; whnf
 refine tk0 (v := ?_) ho (by kernel_rfl) hS ?_ ?_ <;> clear ho
 rotate_left
 ·intro w' hq hq2; first | (go_simp; done) | (go_simp; with_reducible rfl)
 try simp only [Act.put, zp1, zp2, zp3, zp4, zp5, zp6]
 have ho5 := opE opsP 5 (by kernel_rfl)
 conv at ho5 => rhs; arg 1; whnf
 have ho12 := opE opsP 12 (by kernel_rfl)
 conv at ho12 => rhs; arg 1; whnf
 refine wpAnyH_ready (rs := [5, 12]) (by kernel_rfl) (by simp) ?_
 refine (AllReadyH.cons ho5 (fun K hK => ?_) (AllReadyH.cons ho12 (fun K hK => ?_) AllReadyH.nil))
 all_goals clear ho5 ho12
 ·go_simp
  try dsimp only
  refine hK.out _ _ ?_ (fun hS => ?_)
  ·exact hS
  clear hK K
  try simp only [Act.put, zp1, zp2, zp3, zp4, zp5, zp6]
  have ho := opE opsP 11 (by kernel_rfl)
  conv at ho => rhs; arg 1; whnf
  refine tk0 (v := ?_) ho (by kernel_rfl) hS ?_ ?_ <;> clear ho
  rotate_left
  ·intro w' hq hq2; first | (go_simp; done) | (go_simp; with_reducible rfl)
  try simp only [Act.put, zp1, zp2, zp3, zp4, zp5, zp6]
  have ho12 := opE opsP 12 (by kernel_rfl)
  conv at ho12 => rhs; arg 1; whnf
  refine wpAnyH_ready (rs := [12]) (by kernel_rfl) (by simp) ?_
  refine (AllReadyH.cons ho12 (fun K hK => ?_) AllReadyH.nil)
  all_goals clear ho12
  go_simp
  try dsimp only
  refine hK.out _ _ ?_ (fun hS => ?_)
  ·exact ⟨HS1.out, trivial⟩
  clear hK K
  try simp only [Act.put, zp1, zp2, zp3, zp4, zp5, zp6]
  have ho := opE opsP 13 (by kernel_rfl)
  conv at ho => rhs; arg 1; whnf
  refine tk0 (v := ?_) ho (by kernel_rfl) hS ?_ ?_ <;> clear ho
  rotate_left
  ·intro w' hq hq2; first | (go_simp; done) | (go_simp; with_reducible rfl)
  try simp only [Act.put, zp1, zp2, zp3, zp4, zp5, zp6]
  have ho14 := opE opsP 14 (by kernel_rfl)
  conv at ho14 => rhs; arg 1; whnf
  refine wpAnyH_ready (rs := [14]) (by kernel_rfl) (by simp) ?_
  refine (AllReadyH.cons ho14 (fun K hK => ?_) AllReadyH.nil)
  all_goals clear ho14
  go_simp
  try dsimp only
  refine hK.out _ _ ?_ (fun hS => ?_)
  ·exact ⟨HS3.out, trivial⟩
  clear hK K
  try simp only [Act.put, zp1, zp2, zp3, zp4, zp5, zp6]
  refine wpAnyH_done (by kernel_rfl) ?_ _
  refine hK0 _ _ ?_
  obtain ⟨z1, z2, z3, z4, z5, z6, z7, z8, z9, z10, z11⟩ := Hfin.out
  exact field_app (G := G) k x z1 z2 z3 z4 z5 z6 z7 z8 z9 z10 z11
 ·go_simp
  try dsimp only
  refine hK.out _ _ ?_ (fun hS => ?_)
  ·exact ⟨HS1.out, trivial⟩
  clear hK K
  try simp only [Act.put, zp1, zp2, zp3, zp4, zp5, zp6]
  have ho := opE opsP 13 (by kernel_rfl)
  conv at ho => rhs; arg 1; whnf
  refine tk0 (v := ?_) ho (by kernel_rfl) hS ?_ ?_ <;> clear ho
  rotate_left
  ·intro w' hq hq2; first | (go_simp; done) | (go_simp; with_reducible rfl)
  try simp only [Act.put, zp1, zp2, zp3, zp4, zp5, zp6]
  have ho5 := opE opsP 5 (by kernel_rfl)
  conv at ho5 => rhs; arg 1; whnf
  refine wpAnyH_ready (rs := [5]) (by kernel_rfl) (by simp) ?_
  refine (AllReadyH.cons ho5 (fun K hK => ?_) AllReadyH.nil)
  all_goals clear ho5
  go_simp
  try dsimp only
  refine hK.out _ _ ?_ (fun hS => ?_)
  ·exact hS
  clear hK K
  try simp only [Act.put, zp1, zp2, zp3, zp4, zp5, zp6]
  have ho := opE opsP 11 (by kernel_rfl)
  conv at ho => rhs; arg 1; whnf
  refine tk0 (v := ?_) ho (by kernel_rfl) hS ?_ ?_ <;> clear ho
  rotate_left
  ·intro w' hq hq2; first | (go_simp; done) | (go_simp; with_reducible rfl)
  try simp only [Act.put, zp1, zp2, zp3, zp4, zp5, zp6]
  have ho14 := opE opsP 14 (by kernel_rfl)
  conv at ho14 => rhs; arg 1; whnf
  refine wpAnyH_ready (rs := [14]) (by kernel_rfl) (by simp) ?_
  refine (AllReadyH.cons ho14 (fun K hK => ?_) AllReadyH.nil)
  all_goals clear ho14
  go_simp
  try dsimp only
  refine hK.out _ _ ?_ (fun hS => ?_)
  ·exact ⟨HS3.out, trivial⟩
  clear hK K
  try simp only [Act.put, zp1, zp2, zp3, zp4, zp5, zp6]
  refine wpAnyH_done (by kernel_rfl) ?_ _
  refine hK0 _ _ ?_
  obtain ⟨z1, z2, z3, z4, z5, z6, z7, z8, z9, z10, z11⟩ := Hfin.out
  exact field_app (G := G) k x z1 z2 z3 z4 z5 z6 z7 z8 z9 z10 z11
set_option maxRecDepth 1000000 in
theorem field_tail {w W : World} {base R m ib kb G : Nat} {vs vu vf vc : Value} {s : RS} (hr : Rd W base R m vs vu vf vc s) (hb : base ≤ w.heap.size) (hkW : Kept w W) (hold : OldB w vs vu vf vc) (hs : s.Fine) (k : Int) (hk0 : 1 ≤ k ∧ k ≤ 3) (x : It)
  (c1 : 1 ≤ s.g.size) (c2 : s.g.size ≤ 32) (c3 : 1 ≤ s.g.count) (c4 : s.g.count ≤ 256) (c5 : bitsS s.fields k s.g.report + s.g.size * s.g.count ≤ 4096) (c6 : s.fields.length < 256)
  (hkb : W.heap[kb]? = some (.cells #[.int .u8 k, .int .u8 s.g.report] 90 (0, 0))) {B : Int} {b1 b2 b4 : Bool} {A' : Option Addr} (hB : bitsS s.fields k s.g.report = B) (hb1 : (x.data % 2 == 1) = b1) (hb2 : (x.data / 2 % 2 == 0) = b2) (hb4 : (x.data / 4 % 2 == 1) = b4)
  (hG : W.heap[G]? = some (.cells #[.int .u8 k, .int .u8 s.g.report, .int .i64 s.opn, .slice A' s.usages.length s.usages.length, .int .i64 s.g.lo, .int .i64 s.g.hi, .int .i64 s.g.size, .int .i64 s.g.count, .int .i64 B, .bool b1, .bool b2, .bool (decide (s.g.lo < 0)), .bool b4] 59 (0, 0))) (hGw : w.heap.size ≤ G) (hsl : Sl u32T W (fun g => w.heap.size ≤ g ∧ g < W.heap.size ∧ g ≠ G) A' s.usages.length s.usages) (c : 0 ≤ s.opn) :
  Code.wp Try.prog (restC codeM) (bodyPost Try.prog Try.f60 (Did base R m w (fieldS s k x))) ⟨#[.pointer (some ⟨R, 0, none⟩), .int .u8 k, u2, u3, u4, .pointer (some ⟨ib, 0, none⟩), u6, .pointer (some ⟨kb, 0, none⟩), .pointer (some ⟨G, 0, none⟩), u9, gI, kI, gJ, jY, eG, eH, u16, eE, eF, dX, dY, dZ, eA, eB, eC, eD, eI, eJ, eK, eL, eM, eN, u32, eO, eP, iN, iO, iP, iQ, iR, fK, iS, iT, iU, iV, iW, iX, gK, gL, gM, gN, gO, gP, gQ, gR, gS, gT, iY, iZ, jA, jB, jC, jD, jE, u64, jF, jG, jH, jJ, jK, jL, jM, jN, jO, jP, jQ, jR, jZ, kE, kF, kG, kH, jS, jT, jU, jV, jW, jX, kJ, kK, kM, kN, kO, kP, kQ, kR, kS, kT, kU, kV, aK, aG, aA, aB, aC, aD, aE, aF, aH, aI, aJ, aL, bC, bD, bE, bF, bG, bH, bI, bJ, bK, bL, aR, aM, aN, aO, aP, aQ, aS, aT, aU, aV, aW, aX, aY, aZ, bA, bM, bN, bP, bQ, bS, bR, bT, bU, bV, bW, bX, cW, cX, cY, cZ, dA, dB, dC, dD, dE, dF, dG, dH, dI, dJ, dK, dL, dM, dN, bY, bZ, cA, cB, cC, cD, cE, cF, cG, cH, cI, cJ, cK, cM, cN, cO, cP, cQ, cR, cS, cT, cU, cV], []⟩ W := by
 have hrp := hs.report
 have hrep : s.g.report % 256 = s.g.report := by omega
 have hE : fieldS s k x = if ¬ (x.data % 2 = 1) ∧ (fitsS s.g.lo s.g.hi s.g.size.toNat = false ∨ s.usages = []) then (4, s) else (0, { s with fields := s.fields ++ [fieldOf s k x] }) := by
  unfold fieldS
  rw [if_neg (by omega), hrep, if_neg (by omega)]
 have hF : (fieldOf s k x).cells A' = [.int .u8 k, .int .u8 s.g.report, .int .i64 s.opn, .slice A' s.usages.length s.usages.length, .int .i64 s.g.lo, .int .i64 s.g.hi, .int .i64 s.g.size, .int .i64 s.g.count, .int .i64 B, .bool b1, .bool b2, .bool (decide (s.g.lo < 0)), .bool b4] := by
  simp only [Fd.cells, fieldOf, hrep, hB, hb1, hb2, hb4]
 obtain ⟨fb, hfb⟩ : ∃ fb, fitsS s.g.lo s.g.hi s.g.size.toNat = fb := ⟨_, rfl⟩
 have hfits : ∀ w' : World, Calls Try.prog 77 #[.agg #[.int .u8 k, .int .u8 s.g.report, .int .i64 s.opn, .slice A' s.usages.length s.usages.length, .int .i64 s.g.lo, .int .i64 s.g.hi, .int .i64 s.g.size, .int .i64 s.g.count, .int .i64 B, .bool b1, .bool b2, .bool (decide (s.g.lo < 0)), .bool b4]] w' fun e w'' => e = .returned (.bool fb) ∧ Kept w' w'' := by
  intro w'
  have h1 := fits_any (fieldOf s k x) A' s.g.size.toNat (by show s.g.size = _; omega) (by omega) (by omega) hs.lo hs.hi w'
  rw [hF] at h1
  rw [← hfb]
  exact h1
 have hGl := heap_lt hG
 have hul := hs.usages.1
 have g0 := cell_heap hG (o := 0) rfl
 have g1 := cell_heap hG (o := 1) rfl
 have g2 := cell_heap hG (o := 2) rfl
 have g3 := cell_heap hG (o := 3) rfl
 have g4 := cell_heap hG (o := 4) rfl
 have g5 := cell_heap hG (o := 5) rfl
 have g6 := cell_heap hG (o := 6) rfl
 have g7 := cell_heap hG (o := 7) rfl
 have g8 := cell_heap hG (o := 8) rfl
 have g9 := cell_heap hG (o := 9) rfl
 have g10 := cell_heap hG (o := 10) rfl
 have g11 := cell_heap hG (o := 11) rfl
 have g12 := cell_heap hG (o := 12) rfl
 have Hr := hide hr
 have Hb := hide hb
 have HkW := hide hkW
 have Hold := hide hold
 have Hs := hide hs
 have Hk0 := hide hk0
 have C5 := hide c5
 have Hkb := hide hkb
 have HB := hide hB
 have Hb1 := hide hb1
 have Hb2 := hide hb2
 have Hb4 := hide hb4
 have HG := hide hG
 have HGw := hide hGw
 have Hsl := hide hsl
 have HE := hide hE
 have Hfb := hide hfb
 clear hr hb hkW hold hs hk0 c5 hkb hB hb1 hb2 hb4 hG hGw hsl hE hfb hF hrp hrep
 cases b1 with
 | true =>
  have hP : fieldS s k x = (0, { s with fields := s.fields ++ [fieldOf s k x] }) := by
   rw [HE.out, if_neg (fun h => h.1 (by simpa using Hb1.out))]
  have HP := hide hP
  clear hP
  conv => arg 2; whnf
  dsimp only
  go_upto_region 9 with (fail)
  refine field_put Hr.out Hb.out HkW.out Hold.out Hs.out k Hk0.out x c1 c2 c3 c4 C5.out c6 Hkb.out HB.out Hb1.out Hb2.out Hb4.out HG.out HGw.out Hsl.out HP.out _ ?_
  assumption
 | false =>
  have hx : ¬ (x.data % 2 = 1) := by simpa using Hb1.out
  have Hx := hide hx
  clear hx
  cases fb with
  | false =>
   have hP : fieldS s k x = (4, s) := by rw [HE.out, if_pos ⟨Hx.out, .inl Hfb.out⟩]
   rw [hP]
   clear hP
   conv => arg 2; whnf
   dsimp only
   go_wp2_with fail
   go_at_call 77
   with_reducible refine (hfits _).mono ?_
   rintro e w1 ⟨rfl, hk⟩
   go_wp2_with fail
   go_ret
   exact ⟨rfl, Fr.kept (HkW.out.trans' hk) Hb.out, fun e => by cases e⟩
  | true =>
   by_cases hu0 : s.usages.length = 0
   ·have hP : fieldS s k x = (4, s) := by rw [HE.out, if_pos ⟨Hx.out, .inr (List.eq_nil_of_length_eq_zero hu0)⟩]
    rw [hP]
    have Hui := hide (show (s.usages.length : Int) = 0 by omega)
    clear hP hu0
    conv => arg 2; whnf
    dsimp only
    go_wp2_with fail
    go_at_call 77
    with_reducible refine (hfits _).mono ?_
    rintro e w1 ⟨rfl, hk⟩
    have g3' := cell_heap (heap_kept hk HG.out) (o := 3) rfl
    have hGl' := heap_lt (heap_kept hk HG.out)
    have hui := Hui.out
    go_wp2_with fail
    go_ret
    exact ⟨rfl, Fr.kept (HkW.out.trans' hk) Hb.out, fun e => by cases e⟩
   ·have hP : fieldS s k x = (0, { s with fields := s.fields ++ [fieldOf s k x] }) := by
     rw [HE.out, if_neg]
     rintro ⟨_, h | h⟩
     ·rw [Hfb.out] at h; cases h
     ·exact hu0 (by rw [h]; rfl)
    have HP := hide hP
    clear hP
    have hui : ((s.usages.length : Int) == 0) = false := beq_eq_false_iff_ne.2 (by omega)
    have hui2 : ¬ (s.usages.length : Int) = 0 := by omega
    conv => arg 2; whnf
    dsimp only
    go_upto_region 9 with ((go_at_call 77; with_reducible refine (hfits _).mono ?_; rintro e w1 ⟨rfl, hk⟩; have g3' := cell_heap (heap_kept hk HG.out) (o := 3) rfl; have hGl' := heap_lt (heap_kept hk HG.out)))
    refine field_put (Hr.out.kept hk) Hb.out (HkW.out.trans' hk) Hold.out Hs.out k Hk0.out x c1 c2 c3 c4 C5.out c6 (heap_kept hk Hkb.out) HB.out Hb1.out Hb2.out Hb4.out (heap_kept hk HG.out) HGw.out (Hsl.out.keep (fun g hg => ⟨hg.1, Nat.lt_of_lt_of_le hg.2.1 hk.size, hg.2.2⟩) (fun b o hb => hk.cell (p := ⟨b, o, none⟩) hb.2.1)) HP.out _ ?_
    assumption
end Go.Proofs.Ytegdigfcgeoboaa
