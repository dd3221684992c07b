/- The law of the chapter on reports, part 7: Rn Rp Rs Fa Fb. -/
import Derived.Test.YtegdigfcgeoboaaK6
import Derived.WideKeyEntry
import Derived.Shelf.Spec.TrailingZeros
set_option maxHeartbeats 16000000
set_option linter.unusedVariables false
set_option linter.unusedSimpArgs false
set_option linter.unusedSectionVars false
namespace Go.Proofs.Ytegdigfcgeoboaa
open Go.RowKit Go.Maps
structure RdM (w : World) (base R m : Nat) (vs vu vf vc : Value) (s : RS) (fl : List Fd) : Prop where
 box : w.heap[R]? = some (.cells (rdC s m vs vu vf vc) 86 (0, 0))
 st : Own glT 83 base w vs s.stack.length s.stack
 us : Own u32T 27 base w vu s.usages.length s.usages
 fs : Own (fdT.on (Busy R m vs vu vf vc)) 59 base w vf s.fields.length s.fields
 cs : Own coT 68 base w vc s.colls.length s.colls
 map : ∃ f, MapIs Try.prog 90 w m fl.length f ∧ bitsF fl f
 low : R < base ∧ m < base ∧ R ≠ m
section
variable {w w' : World} {base R m : Nat} {vs vu vf vc v' : Value} {s : RS} {fl : List Fd}
theorem RdM.kept (h : RdM w base R m vs vu vf vc s fl) (hk : Kept w w') : RdM w' base R m vs vu vf vc s fl := by
 obtain ⟨f, h1, h2⟩ := h.map
 exact ⟨heap_kept hk h.box, h.st.kept hk, h.us.kept hk, h.fs.kept hk, h.cs.kept hk, ⟨f, h1.keep hk, h2⟩, h.low⟩
theorem Rd.mapTo (h : Rd w base R m vs vu vf vc s) (hg : w.grownBy w' (some m)) (hm : ∃ f, MapIs Try.prog 90 w' m fl.length f ∧ bitsF fl f) : RdM w' base R m vs vu vf vc s fl := by
 obtain ⟨l1, l2, l3⟩ := h.low
 exact ⟨(hg.block R (heap_lt h.box) (fun e => l3 (by injection e))).trans h.box, h.st.grownF flat_gl hg (h.st.above l2), h.us.grownF flat_u32 hg (h.us.above l2),
  h.fs.grownX hg (fun b e hx => by injection e with e; exact hx.2.1 e) (h.fs.above l2), h.cs.grownF flat_co hg (h.cs.above l2), hm, h.low⟩
theorem RdM.fieldsTo (h : RdM w base R m vs vu vf vc s fl) (hg : w.grownBy w' vf.ownBlock) (ho : Own (fdT.on (fun b => Busy R m vs vu vf vc b ∧ b < w.heap.size)) 59 base w' v' fl.length fl) (hat : v'.ownBlock = none ∨ v'.ownBlock = vf.ownBlock ∨ v'.ownBlock = some w.heap.size) :
  Rd (w'.setCell ⟨R, 12, none⟩ v') base R m vs vu v' vc { s with fields := fl } := by
 obtain ⟨f, hm, hf⟩ := h.map
 obtain ⟨l1, l2, l3⟩ := h.low
 have hg2 : w'.grownBy (w'.setCell ⟨R, 12, none⟩ v') (some R) := grown_at grown_self 12 v'
 have hbox : w'.heap[R]? = some (.cells (rdC s m vs vu vf vc) 86 (0, 0)) := (hg.block R (heap_lt h.box) (fun e => h.fs.not_at l1 e.symm)).trans h.box
 have hX : ∀ b, b < w'.heap.size → (Busy R m vs vu vf vc b ∧ b < w.heap.size) → Busy R m vs vu v' vc b := by
  rintro b _ ⟨⟨b1, b2, b3, b4, b5, b6⟩, hb⟩
  have hn : v'.ownBlock ≠ some b := by
   rcases hat with e | e | e
   ·rw [e]; intro e2; cases e2
   ·rw [e]; exact b5
   ·rw [e]; intro e2; injection e2 with e2; omega
  exact ⟨b1, b2, b3, b4, hn, b6⟩
 have hfs := ho.widen hX
 refine ⟨heap_store hbox v', (h.st.grownF flat_gl hg (rows_apart h.st h.fs (by decide))).grownF flat_gl hg2 (h.st.above l1), (h.us.grownF flat_u32 hg (rows_apart h.us h.fs (by decide))).grownF flat_u32 hg2 (h.us.above l1), hfs.grownX hg2 (fun b e hx => by injection e with e; exact hx.1 e) (ho.above l1), (h.cs.grownF flat_co hg (rows_apart h.cs h.fs (by decide))).grownF flat_co hg2 (h.cs.above l1), ⟨f, (hm.kept hg (fun e => h.fs.not_at l2 e.symm)).kept hg2 (fun e => l3 (by injection e with e; first | exact e | exact e.symm)), hf⟩, h.low⟩
end
end Go.Proofs.Ytegdigfcgeoboaa
namespace Go.Proofs.Ytegdigfcgeoboaa
open Go.RowKit Go.Maps Go.WideShapes Go.ChangeMaps Go.ChangeMaps
theorem MapIs.of_heap {P : Program} {k : TypeId} {w w' : World} {b n : Nat} {f : Lit → Option Value} (h : MapIs P k w b n f) (e : w'.heap[b]? = w.heap[b]?) : MapIs P k w' b n f := by
 obtain ⟨D, ⟨es, clock, hb, F, hs, rfl⟩, hf⟩ := h
 exact ⟨_, ⟨es, clock, e.trans hb, F, hs, rfl⟩, hf⟩
theorem MapIs.entry {P : Program} {k t e : TypeId} {w : World} {b n : Nat} {f : Lit → Option Value} {z key : Value} {kl : Lit} (h : MapIs P k w b n f) (L : WideMaps.KeyLaw P k) (K : Keyed P k) (ht : P.underlying t = some (.map k e)) (hz : ∀ u : World, (zeroValue e).run P u = .ok z u) (hn : n < maxLen) (hkey : keyOf P k key = some kl) :
  ∃ (v0 : Value) (st : Nat) (w1 : World), (Instr.mapEntry t (.map (some b)) key).run P w = .ok (.tuple #[v0, goInt st]) w1 ∧ w.grownBy w1 (some b) ∧
   ∀ (w2 : World) (val : Value), w2.heap[b]? = w1.heap[b]? → ∃ w3, (Instr.entryStore t (.map (some b)) (goInt st) val).run P w2 = .ok () w3 ∧ w2.grownBy w3 (some b) ∧ MapIs P k w3 b (n + 1) (putF f kl val) := by
 have h0 := h
 obtain ⟨D, ⟨es, clock, hb, F, hs, rfl⟩, hf⟩ := h
 obtain ⟨v0, st, es1, clock1, hrun, _, hst⟩ := WideElems.entry_then_store L ht hz hb F hkey
 refine ⟨v0, st, _, hrun, ⟨rfl, rfl, rfl, by simp [setBlock], fun i _ hi => heap_setBlock_other hb _ (fun e => hi (by rw [e]))⟩, fun w2 val hw2 => ?_⟩
 have hw2' : w2.heap[b]? = some (.map es1 clock1) := hw2.trans (heap_setBlock_same hb _)
 obtain ⟨es', clock', hr1, hr2⟩ := hst w2 val hw2'
 obtain ⟨w', hr3, hm, _⟩ := h0.update K ht hn val hkey
 rw [hr2] at hr3
 injection hr3 with _ hr3
 subst hr3
 exact ⟨_, hr1, ⟨rfl, rfl, rfl, by simp [setBlock], fun i _ hi => heap_setBlock_other hw2' _ (fun e => hi (by rw [e]))⟩, hm.of_heap ((heap_setBlock_same hw2' _).trans (heap_setBlock_same hb _).symm)⟩
theorem ok_inj2 {α : Type} {a a' : α} {w w' : World} (h : Result.ok a w = Result.ok a' w') : a = a' ∧ w = w' := by injection h with h1 h2; exact ⟨h1, h2⟩
theorem MapIs.entryLook {P : Program} {k t e : TypeId} {w : World} {b n : Nat} {f : Lit → Option Value} {z key : Value} {kl : Lit} (h : MapIs P k w b n f) (L : WideMaps.KeyLaw P k) (K : Keyed P k) (ht : P.underlying t = some (.map k e)) (hz : ∀ u : World, (zeroValue e).run P u = .ok z u) (hn : n < maxLen) (hkey : keyOf P k key = some kl) {V : Value} {w1 : World}
  (hr : (Instr.mapEntry t (.map (some b)) key).run P w = .ok V w1) (w2 : World) (hw2 : w2.heap[b]? = w1.heap[b]?) : (Instr.lookup t (.map (some b)) key false).run P w2 = .ok ((f kl).getD z) w2 := by
 have h0 := h
 have hlk := h.look K ht (hz w) hkey false
 obtain ⟨D, ⟨es, clock, hb, F, hs, rfl⟩, hf⟩ := h
 rcases L.find w hkey es.toList F.keys with ⟨h1, h2⟩ | ⟨j, e0, h1, h2, h3⟩
 ·have hr' : (Instr.mapEntry t (.map (some b)) key).run P w = .ok (.tuple #[z, goInt clock]) (setBlock w b (.map (es.push ⟨key, z, clock⟩) (clock + 1))) := by
   simp [Instr.mapEntry, run_underlying ht, MapKept.run_getObj_map hb, L.check w false hkey, h1, hz, MapKept.run_setObj_map _ hb, Result.andThen, setBlock]
  have hu' : (Instr.mapUpdate t (.map (some b)) key z).run P w = .ok () (setBlock w b (.map (es.push ⟨key, z, clock⟩) (clock + 1))) := by
   simp [Instr.mapUpdate, run_underlying ht, MapKept.run_getObj_map hb, L.check w false hkey, h1, MapKept.run_setObj_map _ hb, Result.andThen, setBlock]
  have hl' : (Instr.lookup t (.map (some b)) key false).run P w = .ok z w := by
   simp [Instr.lookup, run_underlying ht, MapKept.run_getObj_map hb, L.check w es.isEmpty hkey, h1, hz, Result.andThen]
  have hw1 := (ok_inj2 (hr.symm.trans hr')).2
  obtain ⟨w', hr3, hm, _⟩ := h0.update K ht hn z hkey
  rw [hu'] at hr3
  have hr3 := (ok_inj2 hr3).2
  rw [hl'] at hlk
  have hlk := (ok_inj2 hlk).1
  have hm2 : MapIs P k w2 b (n + 1) (putF f kl z) := hm.of_heap (by rw [hw2, hw1, hr3])
  have := hm2.look K ht (hz w2) hkey false
  rw [this]
  have e1 : (putF f kl z kl).getD z = z := by unfold putF; rw [WideAt.sameKey_self (K.key hkey)]; rfl
  have e2 : z = (f kl).getD z := hlk
  show Result.ok ((putF f kl z kl).getD z) w2 = _
  rw [e1, ← e2]
 ·have hj : es[j]? = some e0 := by simpa using h2
  have hsame : es.modify j (fun e => { e with key := key }) = es := by
   apply Array.ext'
   rw [Array.toList_modify, modify_eq_set _ _ _ _ h2]
   have : ({ e0 with key := key } : MapEntry) = e0 := by rw [← h3]
   rw [this]
   exact WideElems.set_self _ _ _ h2
  have hr' : (Instr.mapEntry t (.map (some b)) key).run P w = .ok (.tuple #[e0.val, goInt e0.born]) (setBlock w b (.map es clock)) := by
   simp [Instr.mapEntry, run_underlying ht, MapKept.run_getObj_map hb, L.check w false hkey, h1, hj, h3, L.stays w hkey, hsame, MapKept.run_setObj_map _ hb, Result.andThen, setBlock]
  have hw1 := (ok_inj2 (hr.symm.trans hr')).2
  exact (h0.of_heap (w' := w2) (by rw [hw2, hw1, heap_setBlock_same hb _, hb])).look K ht (hz w2) hkey false
theorem MapIs.noCell {P : Program} {k : TypeId} {w : World} {b n o : Nat} {f : Lit → Option Value} (h : MapIs P k w b n f) : w.cell? ⟨b, o, none⟩ = none := by
 obtain ⟨D, ⟨es, clock, hb, F, hs, rfl⟩, hf⟩ := h
 simp [World.cell?, hb]
theorem law90 : WideMaps.KeyLaw Try.prog 90 := deep_law_laid laidOut (m := 100) (by decide) (k := 90) (of_decide_eq_true (by kernel_rfl)) (by kernel_rfl) (by kernel_rfl)
end Go.Proofs.Ytegdigfcgeoboaa
namespace Go.Proofs.Ytegdigfcgeoboaa
open Go.RowKit Go.Maps
attribute [local go_sem ↓] Go.wp_at_zero Go.wp_at_succ
theorem zero3 (u : World) : (zeroValue 3).run Try.prog u = .ok (.int .i64 0) u := by kernel_rfl
theorem Rd.map_lt {w : World} {base R m : Nat} {vs vu vf vc : Value} {s : RS} (h : Rd w base R m vs vu vf vc s) : m < w.heap.size := by
 obtain ⟨f, h1, _⟩ := h.map; exact h1.lt
theorem Rd.look {w w' : World} {base R m : Nat} {vs vu vf vc : Value} {s : RS} (h : Rd w base R m vs vu vf vc s) (hw : w'.heap[m]? = w.heap[m]?) {k r : Int} (hk : 1 ≤ k ∧ k ≤ 3) (hr : u8k r) :
  (Instr.lookup 81 (.map (some m)) (.agg #[.int .u8 k, .int .u8 r]) false).run Try.prog w' = .ok (.int .i64 (bitsS s.fields k r)) w' := by
 obtain ⟨f, h1, h2⟩ := h.map
 have := (h1.of_heap hw).look keyed90 Try.underlying81 (zero3 w') (key_pair (a := k) (b := r) ⟨by omega, by omega⟩ hr) false
 unfold pairV at this
 rw [this]
 have e := h2 k r hk hr
 show Result.ok ((f (kL k r)).getD (.int .i64 0)) w' = _
 rw [e]
noncomputable def codeM : Code := (Try.f60.body.bind (fromR 6)).getD .skip
noncomputable def opsM : Array Oper := opsOf (headC codeM)
noncomputable def codeP : Code := restC (restC codeM)
noncomputable def opsP : Array Oper := opsOf (headC codeP)
noncomputable def opsA : Array Oper := opsOf (headC (restC codeP))
theorem kept_drew_alloc (W : World) (o : Obj) : Kept W.drew ((W.alloc o).drew) := by
 have h : Kept W (W.alloc o) := (Below.refl _ _).alloc (Nat.le_refl _) o
 exact ⟨h.os, h.tape, h.output, h.size, h.block⟩
theorem kept_row {w w1 : World} (h : Kept w w1) {g : Nat} (hg : w.heap.size ≤ g) (cs : Array Value) : Kept w (w1.setRow g cs) := below_row h hg cs
theorem and1 {n : Int} (h0 : 0 ≤ n) (h1 : n < 4294967296) : (bits BinOp.and IntKind.u32 n 1 != 0) = (n % 2 == 1) := by
 have h := Go.Proofs.bits_and_u32_nat n.toNat 1 (by omega) (by omega)
 rw [Nat.and_one_is_mod, Int.toNat_of_nonneg h0] at h
 have e : bits BinOp.and IntKind.u32 n 1 = n % 2 := h.trans (by omega)
 rw [e]
 rcases Int.emod_two_eq n with h | h <;> rw [h] <;> rfl
theorem and_pow (m i : Nat) : m &&& 2 ^ i = if m / 2 ^ i % 2 = 1 then 2 ^ i else 0 := by
 apply Nat.eq_of_testBit_eq
 intro j
 rw [Nat.testBit_and, Nat.testBit_two_pow]
 by_cases hji : i = j
 ·subst hji
  rw [Nat.testBit_eq_decide_div_mod_eq]
  by_cases hc : m / 2 ^ i % 2 = 1
  ·rw [if_pos hc]; simp [hc, Nat.testBit_two_pow_self]
  ·rw [if_neg hc]; simp [hc]
 ·have e : decide (i = j) = false := by simp [hji]
  rw [e, Bool.and_false]
  split
  ·rw [Nat.testBit_two_pow]; simp [hji]
  ·simp
theorem andbit {n : Int} (h0 : 0 ≤ n) (h1 : n < 4294967296) (i : Nat) (hi : i ≤ 8) : bits BinOp.and IntKind.u32 n ((2 ^ i : Nat) : Int) = if n / ((2 ^ i : Nat) : Int) % 2 = 1 then ((2 ^ i : Nat) : Int) else 0 := by
 have hp : 2 ^ i ≤ 256 := Nat.pow_le_pow_right (by decide) hi
 have h := Go.Proofs.bits_and_u32_nat n.toNat (2 ^ i) (by omega) (by omega)
 rw [and_pow, Int.toNat_of_nonneg h0] at h
 rw [h]
 have e : n / ((2 ^ i : Nat) : Int) % 2 = ((n.toNat / 2 ^ i % 2 : Nat) : Int) := by
  conv => lhs; rw [← Int.toNat_of_nonneg h0]
  rfl
 rw [e]
 by_cases hc : n.toNat / 2 ^ i % 2 = 1
 ·rw [if_pos hc, if_pos (by omega)]
 ·rw [if_neg hc, if_neg (by omega)]; rfl
theorem and2 {n : Int} (h0 : 0 ≤ n) (h1 : n < 4294967296) : (bits BinOp.and IntKind.u32 n 2 == 0) = (n / 2 % 2 == 0) := by
 rw [show bits BinOp.and IntKind.u32 n 2 = _ from andbit h0 h1 1 (by decide)]
 show ((if n / 2 % 2 = 1 then (2 : Int) else 0) == 0) = (n / 2 % 2 == 0)
 rcases Int.emod_two_eq (n / 2) with h | h <;> rw [h] <;> rfl
theorem and4 {n : Int} (h0 : 0 ≤ n) (h1 : n < 4294967296) : (bits BinOp.and IntKind.u32 n 4 != 0) = (n / 4 % 2 == 1) := by
 rw [show bits BinOp.and IntKind.u32 n 4 = _ from andbit h0 h1 2 (by decide)]
 show ((if n / 4 % 2 = 1 then (4 : Int) else 0) != 0) = (n / 4 % 2 == 1)
 rcases Int.emod_two_eq (n / 4) with h | h <;> rw [h] <;> rfl
theorem sl_row {w w1 : World} {A : Option Addr} {n N G : Nat} {l : List Int} {cs : Array Value} (h : Sl u32T w1 (fun g => N ≤ g ∧ g < w1.heap.size ∧ g ≠ G) A n l) (hN : w.heap.size ≤ N) : Sl u32T (w1.setRow G cs) (fun g => w.heap.size ≤ g ∧ g < (w1.setRow G cs).heap.size ∧ g ≠ G) A n l :=
 h.keep (fun g hg => ⟨Nat.le_trans hN hg.1, by rw [size_setRow]; exact hg.2.1, hg.2.2⟩) (fun b o hb => World.cell?_of_block (a := ⟨b, o, none⟩) (by
  have hne := hb.2.2
  show (w1.heap.modify G _)[b]? = _
  rw [Array.getElem?_modify, if_neg (fun e => hne e.symm)]))
def OldB (w : World) (vs vu vf vc : Value) : Prop := ∀ g, vs.ownBlock = some g ∨ vu.ownBlock = some g ∨ vf.ownBlock = some g ∨ vc.ownBlock = some g → g < w.heap.size
theorem Rd.old {w : World} {base R m : Nat} {vs vu vf vc : Value} {s : RS} (h : Rd w base R m vs vu vf vc s) : OldB w vs vu vf vc := by
 rintro g (e | e | e | e)
 ·exact (h.st.lt e).2
 ·exact (h.us.lt e).2
 ·exact (h.fs.lt e).2
 ·exact (h.cs.lt e).2
theorem OldB.busy {w : World} {R m : Nat} {vs vu vf vc : Value} (h : OldB w vs vu vf vc) (hR : R < w.heap.size) (hm : m < w.heap.size) {b : Nat} (hb : w.heap.size ≤ b) : Busy R m vs vu vf vc b := by
 refine ⟨by omega, by omega, fun e => ?_, fun e => ?_, fun e => ?_, fun e => ?_⟩
 ·have := h b (.inl e); omega
 ·have := h b (.inr (.inl e)); omega
 ·have := h b (.inr (.inr (.inl e))); omega
 ·have := h b (.inr (.inr (.inr e))); omega
theorem bitsF_put {l : List Fd} {f : Lit → Option Value} (h : bitsF l f) {F : Fd} (hk : 1 ≤ F.kind ∧ F.kind ≤ 3) (hr : u8k F.report) {n : Int} (hn : n = bitsS l F.kind F.report + F.size * F.count) : bitsF (l ++ [F]) (putF f (kL F.kind F.report) (.int .i64 n)) := by
 intro k r h1 h2
 unfold putF
 rw [kL_same ⟨by omega, by omega⟩ h2 ⟨by omega, by omega⟩ hr, bitsS_snoc]
 by_cases c : k = F.kind ∧ r = F.report
 ·obtain ⟨rfl, rfl⟩ := c
  simp [hn]
 ·have e : (k == F.kind && r == F.report) = false := by
   rw [Bool.and_eq_false_iff]
   by_cases e : k = F.kind
   ·exact .inr (by simpa using fun e2 => c ⟨e, e2⟩)
   ·exact .inl (by simpa using e)
  have e2 : (F.kind == k && F.report == r) = false := by
   rw [Bool.and_eq_false_iff] at e ⊢
   exact e.imp (fun h => by simpa using fun e => (by simpa using h : ¬ k = F.kind) e.symm) (fun h => by simpa using fun e => (by simpa using h : ¬ r = F.report) e.symm)
  rw [e, e2]
  simpa using h k r h1 h2
theorem info59 : (Try.prog.info? 59).map (fun i => (i.zero, i.size, i.bytes)) = some (some (.agg #[.int .u8 0, .int .u8 0, .int .i64 0, .slice none 0 0, .int .i64 0, .int .i64 0, .int .i64 0, .int .i64 0, .int .i64 0, .bool false, .bool false, .bool false, .bool false]), 13, 88) := by kernel_rfl
variable {u1 u2 u3 u4 u5 u6 u7 u9 gI kI gJ jY eG eH u16 eE eF dX dY dZ eA eB eC eD eI eJ eK eL eM eN u32 eO eP iN iO iP iQ iR fK iS iT iU iV iW iX gK gL gM gN gO gP gQ gR gS gT iY iZ jA jB jC jD jE u64 jF jG jH jJ jK jL jM jN jO jP jQ jR jZ kE kF kG kH jS jT jU jV jW jX kJ kK kM kN kO kP kQ kR kS kT kU kV aK aG aA aB aC aD aE aF aH aI aJ aL bC bD bE bF bG bH bI bJ bK bL aR aM aN aO aP aQ aS aT aU aV aW aX aY aZ bA bM bN bP bQ bS bR bT bU bV bW bX cW cX cY cZ dA dB dC dD dE dF dG dH dI dJ dK dL dM dN bY bZ cA cB cC cD cE cF cG cH cI cJ cK cM cN cO cP cQ cR cS cT cU cV : Value}
set_option maxRecDepth 1000000 in
theorem field_app {w W3 : World} {base R m G : Nat} {vs vu vf vc : Value} {s : RS} (k : Int) (x : It) (hM : RdM W3 base R m vs vu vf vc s (s.fields ++ [fieldOf s k x])) (hfr : Fr base R m w W3) (hb : base ≤ w.heap.size) (hold : OldB w vs vu vf vc)
  (hn : s.fields.length < 256) (hul : s.usages.length ≤ 512) (hP : fieldS s k x = (0, { s with fields := s.fields ++ [fieldOf s k x] })) {B : Int} {b1 b2 b4 : Bool} {A' : Option Addr} (hF : (fieldOf s k x).cells A' = [.int .u8 k, .int .u8 s.g.report, .int .i64 s.opn, .slice A' s.usages.length s.usages.length, .int .i64 s.g.lo, .int .i64 s.g.hi, .int .i64 s.g.size, .int .i64 s.g.count, .int .i64 B, .bool b1, .bool b2, .bool (decide (s.g.lo < 0)), .bool b4])
  (hG : W3.heap[G]? = some (.cells #[.int .u8 k, .int .u8 s.g.report, .int .i64 s.opn, .slice A' s.usages.length s.usages.length, .int .i64 s.g.lo, .int .i64 s.g.hi, .int .i64 s.g.size, .int .i64 s.g.count, .int .i64 B, .bool b1, .bool b2, .bool (decide (s.g.lo < 0)), .bool b4] 59 (0, 0))) (hGw : w.heap.size ≤ G) (hsl : Sl u32T W3 (fun g => w.heap.size ≤ g ∧ g < W3.heap.size ∧ g ≠ G) A' s.usages.length s.usages) :
  Code.wp Try.prog (restC codeP) (bodyPost Try.prog Try.f60 (Did base R m w (fieldS s k x))) ⟨#[.pointer (some ⟨R, 0, none⟩), u1, u2, u3, u4, u5, u6, u7, .pointer (some ⟨G, 0, none⟩), u9, gI, kI, gJ, jY, eG, eH, u16, eE, eF, dX, dY, dZ, eA, eB, eC, eD, eI, eJ, eK, eL, eM, eN, u32, eO, eP, iN, iO, iP, iQ, iR, fK, iS, iT, iU, iV, iW, iX, gK, gL, gM, gN, gO, gP, gQ, gR, gS, gT, iY, iZ, jA, jB, jC, jD, jE, u64, jF, jG, jH, jJ, jK, jL, jM, jN, jO, jP, jQ, jR, jZ, kE, kF, kG, kH, jS, jT, jU, jV, jW, jX, kJ, kK, kM, kN, kO, kP, kQ, kR, kS, kT, kU, kV, aK, aG, aA, aB, aC, aD, aE, aF, aH, aI, aJ, aL, bC, bD, bE, bF, bG, bH, bI, bJ, bK, bL, aR, aM, aN, aO, aP, aQ, aS, aT, aU, aV, aW, aX, aY, aZ, bA, bM, bN, bP, bQ, bS, bR, bT, bU, bV, bW, bX, cW, cX, cY, cZ, dA, dB, dC, dD, dE, dF, dG, dH, dI, dJ, dK, dL, dM, dN, bY, bZ, cA, cB, cC, cD, cE, cF, cG, cH, cI, cJ, cK, cM, cN, cO, cP, cQ, cR, cS, cT, cU, cV], []⟩ W3 := by
 conv => arg 2; whnf
 rw [hP]
 have hRl := heap_lt hM.box
 have hGl := heap_lt hG
 have hnR : ¬ vf.ownBlock = some R := hM.fs.not_at hM.low.1
 have hnG : ¬ vf.ownBlock = some G := fun e => by have := hold G (.inr (.inr (.inl e))); omega
 have c12 : W3.cell? ⟨R, 12, none⟩ = some vf := cell_heap hM.box (o := 12) rfl
 have g0 := cell_heap hG (o := 0) rfl
 have g1 := cell_heap hG (o := 1) rfl
 have g2 := cell_heap hG (o := 2) rfl
 have g3 := cell_heap hG (o := 3) rfl
 have g4 := cell_heap hG (o := 4) rfl
 have g5 := cell_heap hG (o := 5) rfl
 have g6 := cell_heap hG (o := 6) rfl
 have g7 := cell_heap hG (o := 7) rfl
 have g8 := cell_heap hG (o := 8) rfl
 have g9 := cell_heap hG (o := 9) rfl
 have g10 := cell_heap hG (o := 10) rfl
 have g11 := cell_heap hG (o := 11) rfl
 have g12 := cell_heap hG (o := 12) rfl
 have HM := hide hM
 have HP := hide hP
 have HF := hide hF
 have HG := hide hG
 have Hsl := hide hsl
 have Hold := hide hold
 have Hul := hide hul
 have Hfr := hide hfr
 clear hM hP hF hG hsl hold hul hfr
 go_upto_region 10 with (fail)
 refine wp_region_held_named (ops' := opsA) (n := 13) (S := fun w' => (∀ o, w'.cell? ⟨G, o, none⟩ = W3.cell? ⟨G, o, none⟩) ∧ True) (by kernel_rfl) (by kernel_rfl) (by kernel_rfl) ⟨fun _ => rfl, trivial⟩ (fun hS => ?_)
 have ho := opE opsA 0 (by kernel_rfl)
 conv at ho => rhs; arg 1; whnf
 refine tk0 (v := ?_) ho (by kernel_rfl) hS ?_ ?_ <;> clear ho
 rotate_left
 ·intro w' hq hq2; first | (go_simp; done) | (go_simp; with_reducible rfl)
 try simp only [Act.put, zp1, zp2, zp3, zp4, zp5, zp6]
 have ho := opE opsA 1 (by kernel_rfl)
 conv at ho => rhs; arg 1; whnf
 refine tk0 (v := ?_) ho (by kernel_rfl) hS ?_ ?_ <;> clear ho
 rotate_left
 ·intro w' hq hq2; first | (go_simp; done) | (go_simp; with_reducible rfl)
 try simp only [Act.put, zp1, zp2, zp3, zp4, zp5, zp6]
 have ho := opE opsA 2 (by kernel_rfl)
 conv at ho => rhs; arg 1; whnf
 refine tk0 (v := ?_) ho (by kernel_rfl) hS ?_ ?_ <;> clear ho
 rotate_left
 ·intro w' hq hq2; first | (go_simp; done) | (go_simp; with_reducible rfl)
 try simp only [Act.put, zp1, zp2, zp3, zp4, zp5, zp6]
 have ho := opE opsA 3 (by kernel_rfl)
 conv at ho => rhs; arg 1; whnf
 refine tk0 (v := ?_) ho (by kernel_rfl) hS ?_ ?_ <;> clear ho
 rotate_left
 ·intro w' hq hq2; first | (go_simp; done) | (go_simp; with_reducible rfl)
 try simp only [Act.put, zp1, zp2, zp3, zp4, zp5, zp6]
 have ho := opE opsA 4 (by kernel_rfl)
 conv at ho => rhs; arg 1; whnf
 refine tk0 (v := ?_) ho (by kernel_rfl) hS ?_ ?_ <;> clear ho
 rotate_left
 ·intro w' hq hq2; first | (go_simp; done) | (go_simp; with_reducible rfl)
 try simp only [Act.put, zp1, zp2, zp3, zp4, zp5, zp6]
 have ho := opE opsA 6 (by kernel_rfl)
 conv at ho => rhs; arg 1; whnf
 refine tk0 (v := ?_) ho (by kernel_rfl) hS ?_ ?_ <;> clear ho
 rotate_left
 ·intro w' hq hq2; first | (go_simp; done) | (go_simp; with_reducible rfl)
 try simp only [Act.put, zp1, zp2, zp3, zp4, zp5, zp6]
 have ho5 := opE opsA 5 (by kernel_rfl)
 conv at ho5 => rhs; arg 1; whnf
 have ho7 := opE opsA 7 (by kernel_rfl)
 conv at ho7 => rhs; arg 1; whnf
 refine wpAnyH_ready (rs := [5, 7]) (by kernel_rfl) (by simp) ?_
 refine (AllReadyH.cons ho5 (fun K hK => ?_) (AllReadyH.cons ho7 (fun K hK => ?_) AllReadyH.nil))
 all_goals clear ho5 ho7
 ·go_simp
  try dsimp only
  refine hK.out _ _ ?_ (fun hS => ?_)
  ·exact hS
  clear hK K
  try simp only [Act.put, zp1, zp2, zp3, zp4, zp5, zp6]
  have ho7 := opE opsA 7 (by kernel_rfl)
  conv at ho7 => rhs; arg 1; whnf
  refine wpAnyH_ready (rs := [7]) (by kernel_rfl) (by simp) ?_
  refine (AllReadyH.cons ho7 (fun K hK => ?_) AllReadyH.nil)
  all_goals clear ho7
  go_simp
  try dsimp only
  refine hK.out _ _ ?_ (fun hS => ?_)
  ·exact ⟨fun o => World.cell?_alloc_lt _ _ _ hGl, trivial⟩
  clear hK K
  try simp only [Act.put, zp1, zp2, zp3, zp4, zp5, zp6]
  have ho8 := opE opsA 8 (by kernel_rfl)
  conv at ho8 => rhs; arg 1; whnf
  refine wpAnyH_ready (rs := [8]) (by kernel_rfl) (by simp) ?_
  refine (AllReadyH.cons ho8 (fun K hK => ?_) AllReadyH.nil)
  all_goals clear ho8
  have hk4 : Kept W3 ((W3.alloc (.cells #[.int .u8 k, .int .u8 s.g.report, .int .i64 s.opn, .slice A' s.usages.length s.usages.length, .int .i64 s.g.lo, .int .i64 s.g.hi, .int .i64 s.g.size, .int .i64 s.g.count, .int .i64 B, .bool b1, .bool b2, .bool (decide (s.g.lo < 0)), .bool b4] 59)).drew) := of_drew' ((Below.refl _ _).alloc (Nat.le_refl _) _)
  have hM4 := HM.out.kept hk4
  have hown : Own (fdT.on (fun b => Busy R m vs vu vf vc b ∧ b < ((W3.alloc (.cells #[.int .u8 k, .int .u8 s.g.report, .int .i64 s.opn, .slice A' s.usages.length s.usages.length, .int .i64 s.g.lo, .int .i64 s.g.hi, .int .i64 s.g.size, .int .i64 s.g.count, .int .i64 B, .bool b1, .bool b2, .bool (decide (s.g.lo < 0)), .bool b4] 59)).drew).heap.size)) 59 base ((W3.alloc (.cells #[.int .u8 k, .int .u8 s.g.report, .int .i64 s.opn, .slice A' s.usages.length s.usages.length, .int .i64 s.g.lo, .int .i64 s.g.hi, .int .i64 s.g.size, .int .i64 s.g.count, .int .i64 B, .bool b1, .bool b2, .bool (decide (s.g.lo < 0)), .bool b4] 59)).drew) vf s.fields.length s.fields := hM4.fs.widen (fun b h1 h2 => ⟨h2, h1⟩)
  have hrel : (fdT.on (fun b => Busy R m vs vu vf vc b ∧ b < ((W3.alloc (.cells #[.int .u8 k, .int .u8 s.g.report, .int .i64 s.opn, .slice A' s.usages.length s.usages.length, .int .i64 s.g.lo, .int .i64 s.g.hi, .int .i64 s.g.size, .int .i64 s.g.count, .int .i64 B, .bool b1, .bool b2, .bool (decide (s.g.lo < 0)), .bool b4] 59)).drew).heap.size)).rel ((W3.alloc (.cells #[.int .u8 k, .int .u8 s.g.report, .int .i64 s.opn, .slice A' s.usages.length s.usages.length, .int .i64 s.g.lo, .int .i64 s.g.hi, .int .i64 s.g.size, .int .i64 s.g.count, .int .i64 B, .bool b1, .bool b2, .bool (decide (s.g.lo < 0)), .bool b4] 59)).drew) (apart ((W3.alloc (.cells #[.int .u8 k, .int .u8 s.g.report, .int .i64 s.opn, .slice A' s.usages.length s.usages.length, .int .i64 s.g.lo, .int .i64 s.g.hi, .int .i64 s.g.size, .int .i64 s.g.count, .int .i64 B, .bool b1, .bool b2, .bool (decide (s.g.lo < 0)), .bool b4] 59)).drew) vf) (fieldOf s k x) [.int .u8 k, .int .u8 s.g.report, .int .i64 s.opn, .slice A' s.usages.length s.usages.length, .int .i64 s.g.lo, .int .i64 s.g.hi, .int .i64 s.g.size, .int .i64 s.g.count, .int .i64 B, .bool b1, .bool b2, .bool (decide (s.g.lo < 0)), .bool b4] :=
   ⟨A', HF.out.symm, Nat.le_trans Hul.out (by decide), Hsl.out.keep (fun g hg => ⟨⟨Nat.lt_of_lt_of_le hg.2.1 hk4.size, (Hold.out.busy (Nat.lt_of_lt_of_le HM.out.low.1 hb) (Nat.lt_of_lt_of_le HM.out.low.2.1 hb) hg.1).2.2.2.2.1⟩, Hold.out.busy (Nat.lt_of_lt_of_le HM.out.low.1 hb) (Nat.lt_of_lt_of_le HM.out.low.2.1 hb) hg.1, Nat.lt_of_lt_of_le hg.2.1 hk4.size⟩) (fun b o hb => hk4.cell (p := ⟨b, o, none⟩) hb.2.1)⟩
  obtain ⟨i1, hi1, hz0, hz1, hz2⟩ := info_parts info59
  refine step_append_el (T := fdT.on (fun b => Busy R m vs vu vf vc b ∧ b < ((W3.alloc (.cells #[.int .u8 k, .int .u8 s.g.report, .int .i64 s.opn, .slice A' s.usages.length s.usages.length, .int .i64 s.g.lo, .int .i64 s.g.hi, .int .i64 s.g.size, .int .i64 s.g.count, .int .i64 B, .bool b1, .bool b2, .bool (decide (s.g.lo < 0)), .bool b4] 59)).drew).heap.size)) rfl (.tmp 182) (.tmp 184) 37 rfl base 59 i1 _ 88 Try.underlying37 hi1 hz0 hz1 hz2 rfl (show 0 < 13 by decide) vf s.fields.length s.fields (by rfl) hown W3.heap.size #[.int .u8 k, .int .u8 s.g.report, .int .i64 s.opn, .slice A' s.usages.length s.usages.length, .int .i64 s.g.lo, .int .i64 s.g.hi, .int .i64 s.g.size, .int .i64 s.g.count, .int .i64 B, .bool b1, .bool b2, .bool (decide (s.g.lo < 0)), .bool b4] 59 (fieldOf s k x) (by rfl) (heap_at _ rfl) hrel (by simp [Value.oneCell']) (by unfold maxLen; omega) (by omega) (Nat.le_trans hb (Nat.le_trans Hfr.out.size hk4.size)) ?_
  intro g cap w5 hown5 hg5 hb5 hat5 hlt5
  have hbx5 := (hb5.block R HM.out.low.1).trans hM4.box
  have c6' := cell_heap hbx5 (o := 12) rfl
  have f6' := frozen_heap hbx5 (o := 12)
  have hl5 := heap_lt hbx5
  have hS5 : ∀ o, w5.cell? ⟨G, o, none⟩ = W3.cell? ⟨G, o, none⟩ := fun o => (World.cell?_of_block (a := ⟨G, o, none⟩) (hg5.block G (Nat.lt_of_lt_of_le hGl hk4.size) (fun e => hnG e.symm))).trans (hk4.cell (p := ⟨G, o, none⟩) hGl)
  have hRG : ¬ R = G := by have := HM.out.low.1; omega
  have hfr5 : Fr base R m ((W3.alloc (.cells #[.int .u8 k, .int .u8 s.g.report, .int .i64 s.opn, .slice A' s.usages.length s.usages.length, .int .i64 s.g.lo, .int .i64 s.g.hi, .int .i64 s.g.size, .int .i64 s.g.count, .int .i64 B, .bool b1, .bool b2, .bool (decide (s.g.lo < 0)), .bool b4] 59)).drew) w5 := Fr.grow hb5 hg5 hown (by decide)
  clear hown hrel
  refine hK.out _ _ ?_ (fun hS => ?_)
  ·exact ⟨hS5, trivial⟩
  clear hK K
  try simp only [Act.put, zp1, zp2, zp3, zp4, zp5, zp6]
  have ho := opE opsA 9 (by kernel_rfl)
  conv at ho => rhs; arg 1; whnf
  refine tk0 (v := ?_) ho (by kernel_rfl) hS ?_ ?_ <;> clear ho
  rotate_left
  ·intro w' hq hq2; first | (go_simp; done) | (go_simp; with_reducible rfl)
  try simp only [Act.put, zp1, zp2, zp3, zp4, zp5, zp6]
  have ho := opE opsA 10 (by kernel_rfl)
  conv at ho => rhs; arg 1; whnf
  refine tk0 (v := ?_) ho (by kernel_rfl) hS ?_ ?_ <;> clear ho
  rotate_left
  ·intro w' hq hq2; first | (go_simp; done) | (go_simp; with_reducible rfl)
  try simp only [Act.put, zp1, zp2, zp3, zp4, zp5, zp6]
  have ho := opE opsA 11 (by kernel_rfl)
  conv at ho => rhs; arg 1; whnf
  refine tk0 (v := ?_) ho (by kernel_rfl) hS ?_ ?_ <;> clear ho
  rotate_left
  ·intro w' hq hq2; first | (go_simp; done) | (go_simp; with_reducible rfl)
  try simp only [Act.put, zp1, zp2, zp3, zp4, zp5, zp6]
  have ho12 := opE opsA 12 (by kernel_rfl)
  conv at ho12 => rhs; arg 1; whnf
  refine wpAnyH_ready (rs := [12]) (by kernel_rfl) (by simp) ?_
  refine (AllReadyH.cons ho12 (fun K hK => ?_) AllReadyH.nil)
  all_goals clear ho12
  go_simp
  try dsimp only
  refine hK.out _ _ ?_ (fun hS => ?_)
  ·exact ⟨fun o => (World.cell?_setCell_other _ _ _ _ (fun e => hRG (by have := congrArg Addr.block e; exact this))).trans (hS5 o), trivial⟩
  clear hK K
  try simp only [Act.put, zp1, zp2, zp3, zp4, zp5, zp6]
  refine wpAnyH_done (by kernel_rfl) ?_ _
  have hfin := hM4.fieldsTo (v' := .slice (some ⟨g, 0, none⟩) (s.fields.length + 1) cap) hg5 (by rw [List.length_append]; exact hown5) (hat5.elim (fun e => .inr (.inl e.symm)) (fun e => .inr (.inr (by rw [e]; rfl))))
  have hfrF : Fr base R m w (w5.setCell ⟨R, 12, none⟩ (.slice (some ⟨g, 0, none⟩) (s.fields.length + 1) cap)) := ((Hfr.out.trans (Fr.kept hk4 (Nat.le_trans hb Hfr.out.size))).trans hfr5).trans (Fr.set 12 _)
  clear hS c6' f6' hbx5 hg5 hb5 hat5 hown5
  try (refine ‹∀ (a : Act) (w : World), _ → _› _ _ ?_)
  go_wp2_with fail
  go_ret
  exact ⟨rfl, hfrF, fun _ => ⟨_, _, _, _, hfin⟩⟩
 ·go_simp
  try dsimp only
  refine hK.out _ _ ?_ (fun hS => ?_)
  ·exact ⟨fun o => World.cell?_alloc_lt _ _ _ hGl, trivial⟩
  clear hK K
  try simp only [Act.put, zp1, zp2, zp3, zp4, zp5, zp6]
  have ho5 := opE opsA 5 (by kernel_rfl)
  conv at ho5 => rhs; arg 1; whnf
  refine wpAnyH_ready (rs := [5]) (by kernel_rfl) (by simp) ?_
  refine (AllReadyH.cons ho5 (fun K hK => ?_) AllReadyH.nil)
  all_goals clear ho5
  go_simp
  try dsimp only
  refine hK.out _ _ ?_ (fun hS => ?_)
  ·exact hS
  clear hK K
  try simp only [Act.put, zp1, zp2, zp3, zp4, zp5, zp6]
  have ho8 := opE opsA 8 (by kernel_rfl)
  conv at ho8 => rhs; arg 1; whnf
  refine wpAnyH_ready (rs := [8]) (by kernel_rfl) (by simp) ?_
  refine (AllReadyH.cons ho8 (fun K hK => ?_) AllReadyH.nil)
  all_goals clear ho8
  have hk4 : Kept W3 ((W3.alloc (.cells #[.int .u8 k, .int .u8 s.g.report, .int .i64 s.opn, .slice A' s.usages.length s.usages.length, .int .i64 s.g.lo, .int .i64 s.g.hi, .int .i64 s.g.size, .int .i64 s.g.count, .int .i64 B, .bool b1, .bool b2, .bool (decide (s.g.lo < 0)), .bool b4] 59)).drew) := of_drew' ((Below.refl _ _).alloc (Nat.le_refl _) _)
  have hM4 := HM.out.kept hk4
  have hown : Own (fdT.on (fun b => Busy R m vs vu vf vc b ∧ b < ((W3.alloc (.cells #[.int .u8 k, .int .u8 s.g.report, .int .i64 s.opn, .slice A' s.usages.length s.usages.length, .int .i64 s.g.lo, .int .i64 s.g.hi, .int .i64 s.g.size, .int .i64 s.g.count, .int .i64 B, .bool b1, .bool b2, .bool (decide (s.g.lo < 0)), .bool b4] 59)).drew).heap.size)) 59 base ((W3.alloc (.cells #[.int .u8 k, .int .u8 s.g.report, .int .i64 s.opn, .slice A' s.usages.length s.usages.length, .int .i64 s.g.lo, .int .i64 s.g.hi, .int .i64 s.g.size, .int .i64 s.g.count, .int .i64 B, .bool b1, .bool b2, .bool (decide (s.g.lo < 0)), .bool b4] 59)).drew) vf s.fields.length s.fields := hM4.fs.widen (fun b h1 h2 => ⟨h2, h1⟩)
  have hrel : (fdT.on (fun b => Busy R m vs vu vf vc b ∧ b < ((W3.alloc (.cells #[.int .u8 k, .int .u8 s.g.report, .int .i64 s.opn, .slice A' s.usages.length s.usages.length, .int .i64 s.g.lo, .int .i64 s.g.hi, .int .i64 s.g.size, .int .i64 s.g.count, .int .i64 B, .bool b1, .bool b2, .bool (decide (s.g.lo < 0)), .bool b4] 59)).drew).heap.size)).rel ((W3.alloc (.cells #[.int .u8 k, .int .u8 s.g.report, .int .i64 s.opn, .slice A' s.usages.length s.usages.length, .int .i64 s.g.lo, .int .i64 s.g.hi, .int .i64 s.g.size, .int .i64 s.g.count, .int .i64 B, .bool b1, .bool b2, .bool (decide (s.g.lo < 0)), .bool b4] 59)).drew) (apart ((W3.alloc (.cells #[.int .u8 k, .int .u8 s.g.report, .int .i64 s.opn, .slice A' s.usages.length s.usages.length, .int .i64 s.g.lo, .int .i64 s.g.hi, .int .i64 s.g.size, .int .i64 s.g.count, .int .i64 B, .bool b1, .bool b2, .bool (decide (s.g.lo < 0)), .bool b4] 59)).drew) vf) (fieldOf s k x) [.int .u8 k, .int .u8 s.g.report, .int .i64 s.opn, .slice A' s.usages.length s.usages.length, .int .i64 s.g.lo, .int .i64 s.g.hi, .int .i64 s.g.size, .int .i64 s.g.count, .int .i64 B, .bool b1, .bool b2, .bool (decide (s.g.lo < 0)), .bool b4] :=
   ⟨A', HF.out.symm, Nat.le_trans Hul.out (by decide), Hsl.out.keep (fun g hg => ⟨⟨Nat.lt_of_lt_of_le hg.2.1 hk4.size, (Hold.out.busy (Nat.lt_of_lt_of_le HM.out.low.1 hb) (Nat.lt_of_lt_of_le HM.out.low.2.1 hb) hg.1).2.2.2.2.1⟩, Hold.out.busy (Nat.lt_of_lt_of_le HM.out.low.1 hb) (Nat.lt_of_lt_of_le HM.out.low.2.1 hb) hg.1, Nat.lt_of_lt_of_le hg.2.1 hk4.size⟩) (fun b o hb => hk4.cell (p := ⟨b, o, none⟩) hb.2.1)⟩
  obtain ⟨i1, hi1, hz0, hz1, hz2⟩ := info_parts info59
  refine step_append_el (T := fdT.on (fun b => Busy R m vs vu vf vc b ∧ b < ((W3.alloc (.cells #[.int .u8 k, .int .u8 s.g.report, .int .i64 s.opn, .slice A' s.usages.length s.usages.length, .int .i64 s.g.lo, .int .i64 s.g.hi, .int .i64 s.g.size, .int .i64 s.g.count, .int .i64 B, .bool b1, .bool b2, .bool (decide (s.g.lo < 0)), .bool b4] 59)).drew).heap.size)) rfl (.tmp 182) (.tmp 184) 37 rfl base 59 i1 _ 88 Try.underlying37 hi1 hz0 hz1 hz2 rfl (show 0 < 13 by decide) vf s.fields.length s.fields (by rfl) hown W3.heap.size #[.int .u8 k, .int .u8 s.g.report, .int .i64 s.opn, .slice A' s.usages.length s.usages.length, .int .i64 s.g.lo, .int .i64 s.g.hi, .int .i64 s.g.size, .int .i64 s.g.count, .int .i64 B, .bool b1, .bool b2, .bool (decide (s.g.lo < 0)), .bool b4] 59 (fieldOf s k x) (by rfl) (heap_at _ rfl) hrel (by simp [Value.oneCell']) (by unfold maxLen; omega) (by omega) (Nat.le_trans hb (Nat.le_trans Hfr.out.size hk4.size)) ?_
  intro g cap w5 hown5 hg5 hb5 hat5 hlt5
  have hbx5 := (hb5.block R HM.out.low.1).trans hM4.box
  have c6' := cell_heap hbx5 (o := 12) rfl
  have f6' := frozen_heap hbx5 (o := 12)
  have hl5 := heap_lt hbx5
  have hS5 : ∀ o, w5.cell? ⟨G, o, none⟩ = W3.cell? ⟨G, o, none⟩ := fun o => (World.cell?_of_block (a := ⟨G, o, none⟩) (hg5.block G (Nat.lt_of_lt_of_le hGl hk4.size) (fun e => hnG e.symm))).trans (hk4.cell (p := ⟨G, o, none⟩) hGl)
  have hRG : ¬ R = G := by have := HM.out.low.1; omega
  have hfr5 : Fr base R m ((W3.alloc (.cells #[.int .u8 k, .int .u8 s.g.report, .int .i64 s.opn, .slice A' s.usages.length s.usages.length, .int .i64 s.g.lo, .int .i64 s.g.hi, .int .i64 s.g.size, .int .i64 s.g.count, .int .i64 B, .bool b1, .bool b2, .bool (decide (s.g.lo < 0)), .bool b4] 59)).drew) w5 := Fr.grow hb5 hg5 hown (by decide)
  clear hown hrel
  refine hK.out _ _ ?_ (fun hS => ?_)
  ·exact ⟨hS5, trivial⟩
  clear hK K
  try simp only [Act.put, zp1, zp2, zp3, zp4, zp5, zp6]
  have ho := opE opsA 9 (by kernel_rfl)
  conv at ho => rhs; arg 1; whnf
  refine tk0 (v := ?_) ho (by kernel_rfl) hS ?_ ?_ <;> clear ho
  rotate_left
  ·intro w' hq hq2; first | (go_simp; done) | (go_simp; with_reducible rfl)
  try simp only [Act.put, zp1, zp2, zp3, zp4, zp5, zp6]
  have ho := opE opsA 10 (by kernel_rfl)
  conv at ho => rhs; arg 1; whnf
  refine tk0 (v := ?_) ho (by kernel_rfl) hS ?_ ?_ <;> clear ho
  rotate_left
  ·intro w' hq hq2; first | (go_simp; done) | (go_simp; with_reducible rfl)
  try simp only [Act.put, zp1, zp2, zp3, zp4, zp5, zp6]
  have ho := opE opsA 11 (by kernel_rfl)
  conv at ho => rhs; arg 1; whnf
  refine tk0 (v := ?_) ho (by kernel_rfl) hS ?_ ?_ <;> clear ho
  rotate_left
  ·intro w' hq hq2; first | (go_simp; done) | (go_simp; with_reducible rfl)
  try simp only [Act.put, zp1, zp2, zp3, zp4, zp5, zp6]
  have ho12 := opE opsA 12 (by kernel_rfl)
  conv at ho12 => rhs; arg 1; whnf
  refine wpAnyH_ready (rs := [12]) (by kernel_rfl) (by simp) ?_
  refine (AllReadyH.cons ho12 (fun K hK => ?_) AllReadyH.nil)
  all_goals clear ho12
  go_simp
  try dsimp only
  refine hK.out _ _ ?_ (fun hS => ?_)
  ·exact ⟨fun o => (World.cell?_setCell_other _ _ _ _ (fun e => hRG (by have := congrArg Addr.block e; exact this))).trans (hS5 o), trivial⟩
  clear hK K
  try simp only [Act.put, zp1, zp2, zp3, zp4, zp5, zp6]
  refine wpAnyH_done (by kernel_rfl) ?_ _
  have hfin := hM4.fieldsTo (v' := .slice (some ⟨g, 0, none⟩) (s.fields.length + 1) cap) hg5 (by rw [List.length_append]; exact hown5) (hat5.elim (fun e => .inr (.inl e.symm)) (fun e => .inr (.inr (by rw [e]; rfl))))
  have hfrF : Fr base R m w (w5.setCell ⟨R, 12, none⟩ (.slice (some ⟨g, 0, none⟩) (s.fields.length + 1) cap)) := ((Hfr.out.trans (Fr.kept hk4 (Nat.le_trans hb Hfr.out.size))).trans hfr5).trans (Fr.set 12 _)
  clear hS c6' f6' hbx5 hg5 hb5 hat5 hown5
  try (refine ‹∀ (a : Act) (w : World), _ → _› _ _ ?_)
  go_wp2_with fail
  go_ret
  exact ⟨rfl, hfrF, fun _ => ⟨_, _, _, _, hfin⟩⟩
end Go.Proofs.Ytegdigfcgeoboaa
