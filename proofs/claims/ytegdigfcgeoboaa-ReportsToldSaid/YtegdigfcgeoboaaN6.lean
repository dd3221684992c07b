/- fits; the reader's map. -/
import Derived.Test.YtegdigfcgeoboaaChecked
import Derived.Deep.RegionHeld3
import Derived.Deep.DrawnRows
import Derived.Deep.DeepCutAuto
import Derived.Deep.LoopGhost
import Derived.Outline
import Derived.Handy
import Derived.OwnWalk
import Derived.BigQuiet
import Derived.Test.YtegdigfcgeoboaaN5
import Derived.Test.YtegdigfcgeoboaaN4
import Derived.WideKeyEntry
import Derived.DeepKeys4
import Derived.KernelRfl
set_option linter.unusedVariables false
set_option linter.unusedSimpArgs false
set_option linter.unusedSectionVars false
/- fits: whether a field's values can be represented. -/
namespace Go.Proofs.Ytegdigfcgeoboaa
open Go.RowKit
attribute [local go_sem ↓] Go.wp_at_zero Go.wp_at_succ

theorem two_pow (n : Nat) (h : n ≤ 32) : (1 : Int) ≤ 2 ^ n ∧ (2 : Int) ^ n ≤ 4294967296 := by
  have h1 : 2 ^ n ≤ 4294967296 := Nat.le_trans (Nat.pow_le_pow_right (by decide) h) (by decide)
  have h2 : 1 ≤ 2 ^ n := Nat.one_le_two_pow
  have e : ((2 ^ n : Nat) : Int) = (2 : Int) ^ n := by rw [Int.natCast_pow]; rfl
  rw [← e]
  omega
set_option maxRecDepth 100000 in
set_option maxHeartbeats 1000000 in
theorem fits_any (f : Fd) (A : Option Addr) (n : Nat) (hn : f.size = n) (h1 : 1 ≤ n) (h2 : n ≤ 32) (hlo : -2147483648 ≤ f.lo ∧ f.lo ≤ 2147483647) (hhi : -2147483648 ≤ f.hi ∧ f.hi ≤ 2147483647) (w : World) :
    Calls Try.prog 77 #[.agg (f.cells A).toArray] w fun e w' => e = .returned (.bool (fitsS f.lo f.hi n)) ∧ Kept w w' := by
  obtain ⟨p0, p1⟩ := two_pow n h2
  obtain ⟨q0, q1⟩ := two_pow (n - 1) (by omega)
  have e1 : ((n : Int) - 1).toNat = n - 1 := by omega
  have hn0 : (0 : Int) ≤ (n : Int) := by omega
  have hn1 : (0 : Int) ≤ (n : Int) - 1 := by omega
  have w1 : IntKind.i64.wrap (2 ^ n) = 2 ^ n := by rw [IntKind.wrap_i64]; omega
  have w2 : IntKind.i64.wrap (2 ^ n - 1) = 2 ^ n - 1 := by rw [IntKind.wrap_i64]; omega
  have w3 : IntKind.i64.wrap (2 ^ (n - 1)) = 2 ^ (n - 1) := by rw [IntKind.wrap_i64]; omega
  have w4 : IntKind.i64.wrap (2 ^ (n - 1) - 1) = 2 ^ (n - 1) - 1 := by rw [IntKind.wrap_i64]; omega
  have w5 : IntKind.i64.wrap (-2 ^ (n - 1)) = -2 ^ (n - 1) := by rw [IntKind.wrap_i64]; omega
  have w6 : IntKind.i64.wrap (-1 * 2 ^ (n - 1)) = -2 ^ (n - 1) := by rw [IntKind.wrap_i64]; omega
  unfold Fd.cells
  rw [hn]
  by_cases c : f.lo < 0
  · have hF : fitsS f.lo f.hi n = (decide (f.lo ≤ f.hi) && decide (-2 ^ (n - 1) ≤ f.lo) && decide (f.hi ≤ 2 ^ (n - 1) - 1)) := by unfold fitsS; rw [if_pos c]
    rw [hF]
    clear hF
    by_cases ca : f.lo ≤ f.hi
    · by_cases cb : -2 ^ (n - 1) ≤ f.lo
      · by_cases cc : f.hi ≤ 2 ^ (n - 1) - 1
        · have e : (decide (f.lo ≤ f.hi) && decide (-2 ^ (n - 1) ≤ f.lo) && decide (f.hi ≤ 2 ^ (n - 1) - 1)) = true := by simp [ca, cb, cc]
          rw [e]
          go_enter Try.func77, Try.ntmps77
          go_upto_region 1 with (fail)
          go_quiet (fail)
          go_upto_region 3 with (fail)
          go_quiet (fail)
          go_wp2_with fail
          go_ret
          exact ⟨rfl, below_drewN (by go_grown) _⟩
        · have e : (decide (f.lo ≤ f.hi) && decide (-2 ^ (n - 1) ≤ f.lo) && decide (f.hi ≤ 2 ^ (n - 1) - 1)) = false := by simp [cc]
          rw [e]
          go_enter Try.func77, Try.ntmps77
          go_upto_region 1 with (fail)
          go_quiet (fail)
          go_upto_region 3 with (fail)
          go_quiet (fail)
          go_wp2_with fail
          go_ret
          exact ⟨rfl, below_drewN (by go_grown) _⟩
      · have e : (decide (f.lo ≤ f.hi) && decide (-2 ^ (n - 1) ≤ f.lo) && decide (f.hi ≤ 2 ^ (n - 1) - 1)) = false := by simp [cb]
        rw [e]
        go_enter Try.func77, Try.ntmps77
        go_upto_region 1 with (fail)
        go_quiet (fail)
        go_upto_region 3 with (fail)
        go_quiet (fail)
        go_wp2_with fail
        go_ret
        exact ⟨rfl, below_drewN (by go_grown) _⟩
    · have e : (decide (f.lo ≤ f.hi) && decide (-2 ^ (n - 1) ≤ f.lo) && decide (f.hi ≤ 2 ^ (n - 1) - 1)) = false := by simp [ca]
      rw [e]
      go_enter Try.func77, Try.ntmps77
      go_upto_region 1 with (fail)
      go_quiet (fail)
      go_upto_region 3 with (fail)
      go_quiet (fail)
      go_wp2_with fail
      go_ret
      exact ⟨rfl, below_drewN (by go_grown) _⟩
  · have hF : fitsS f.lo f.hi n = (decide (f.lo ≤ f.hi) && decide (0 ≤ f.lo) && decide (f.hi ≤ 2 ^ n - 1)) := by unfold fitsS; rw [if_neg c]
    rw [hF]
    clear hF
    by_cases ca : f.lo ≤ f.hi
    · by_cases cb : 0 ≤ f.lo
      · by_cases cc : f.hi ≤ 2 ^ n - 1
        · have e : (decide (f.lo ≤ f.hi) && decide (0 ≤ f.lo) && decide (f.hi ≤ 2 ^ n - 1)) = true := by simp [ca, cb, cc]
          rw [e]
          go_enter Try.func77, Try.ntmps77
          go_upto_region 1 with (fail)
          go_quiet (fail)
          go_wp2_with fail
          go_ret
          exact ⟨rfl, below_drewN (by go_grown) _⟩
        · have e : (decide (f.lo ≤ f.hi) && decide (0 ≤ f.lo) && decide (f.hi ≤ 2 ^ n - 1)) = false := by simp [cc]
          rw [e]
          go_enter Try.func77, Try.ntmps77
          go_upto_region 1 with (fail)
          go_quiet (fail)
          go_wp2_with fail
          go_ret
          exact ⟨rfl, below_drewN (by go_grown) _⟩
      · exact absurd (by omega) cb
    · have e : (decide (f.lo ≤ f.hi) && decide (0 ≤ f.lo) && decide (f.hi ≤ 2 ^ n - 1)) = false := by simp [ca]
      rw [e]
      go_enter Try.func77, Try.ntmps77
      go_upto_region 1 with (fail)
      go_quiet (fail)
      go_wp2_with fail
      go_ret
      exact ⟨rfl, below_drewN (by go_grown) _⟩
end Go.Proofs.Ytegdigfcgeoboaa
/- The reader in memory between the map's entry and the append of a field. No condition. -/
namespace Go.Proofs.Ytegdigfcgeoboaa
open Go.RowKit Go.Maps

/-- the reader in memory, its map ahead: the map speaks of the fields fl -/
structure RdM (w : World) (base R m : Nat) (vs vu vf vc : Value) (s : RS) (fl : List Fd) : Prop where
  box : w.heap[R]? = some (.cells (rdC s m vs vu vf vc) 86 (0, 0))
  st : Own glT 83 base w vs s.stack.length s.stack
  us : Own u32T 27 base w vu s.usages.length s.usages
  fs : Own (fdT.on (Busy R m vs vu vf vc)) 59 base w vf s.fields.length s.fields
  cs : Own coT 68 base w vc s.colls.length s.colls
  map : ∃ f, MapIs Try.prog 90 w m fl.length f ∧ bitsF fl f
  low : R < base ∧ m < base ∧ R ≠ m
section
variable {w w' : World} {base R m : Nat} {vs vu vf vc v' : Value} {s : RS} {fl : List Fd}
theorem RdM.kept (h : RdM w base R m vs vu vf vc s fl) (hk : Kept w w') : RdM w' base R m vs vu vf vc s fl := by
  obtain ⟨f, h1, h2⟩ := h.map
  exact ⟨heap_kept hk h.box, h.st.kept hk, h.us.kept hk, h.fs.kept hk, h.cs.kept hk, ⟨f, h1.keep hk, h2⟩, h.low⟩
/-- the map alone has changed -/
theorem Rd.mapTo (h : Rd w base R m vs vu vf vc s) (hg : w.grownBy w' (some m)) (hm : ∃ f, MapIs Try.prog 90 w' m fl.length f ∧ bitsF fl f) : RdM w' base R m vs vu vf vc s fl := by
  obtain ⟨l1, l2, l3⟩ := h.low
  exact ⟨(hg.block R (heap_lt h.box) (fun e => l3 (by injection e))).trans h.box, h.st.grownF flat_gl hg (h.st.above l2), h.us.grownF flat_u32 hg (h.us.above l2),
    h.fs.grownX hg (fun b e hx => by injection e with e; exact hx.2.1 e) (h.fs.above l2), h.cs.grownF flat_co hg (h.cs.above l2), hm, h.low⟩
/-- the fields have grown, and are stored -/
theorem RdM.fieldsTo (h : RdM w base R m vs vu vf vc s fl) (hg : w.grownBy w' vf.ownBlock) (ho : Own (fdT.on (fun b => Busy R m vs vu vf vc b ∧ b < w.heap.size)) 59 base w' v' fl.length fl) (hat : v'.ownBlock = none ∨ v'.ownBlock = vf.ownBlock ∨ v'.ownBlock = some w.heap.size) :
    Rd (w'.setCell ⟨R, 12, none⟩ v') base R m vs vu v' vc { s with fields := fl } := by
  obtain ⟨f, hm, hf⟩ := h.map
  obtain ⟨l1, l2, l3⟩ := h.low
  have hg2 : w'.grownBy (w'.setCell ⟨R, 12, none⟩ v') (some R) := grown_at grown_self 12 v'
  have hbox : w'.heap[R]? = some (.cells (rdC s m vs vu vf vc) 86 (0, 0)) := (hg.block R (heap_lt h.box) (fun e => h.fs.not_at l1 e.symm)).trans h.box
  have hX : ∀ b, b < w'.heap.size → (Busy R m vs vu vf vc b ∧ b < w.heap.size) → Busy R m vs vu v' vc b := by
    rintro b _ ⟨⟨b1, b2, b3, b4, b5, b6⟩, hb⟩
    have hn : v'.ownBlock ≠ some b := by
      rcases hat with e | e | e
      · rw [e]; intro e2; cases e2
      · rw [e]; exact b5
      · rw [e]; intro e2; injection e2 with e2; omega
    exact ⟨b1, b2, b3, b4, hn, b6⟩
  have hfs := ho.widen hX
  refine ⟨heap_store hbox v', (h.st.grownF flat_gl hg (rows_apart h.st h.fs (by decide))).grownF flat_gl hg2 (h.st.above l1), (h.us.grownF flat_u32 hg (rows_apart h.us h.fs (by decide))).grownF flat_u32 hg2 (h.us.above l1), hfs.grownX hg2 (fun b e hx => by injection e with e; exact hx.1 e) (ho.above l1), (h.cs.grownF flat_co hg (rows_apart h.cs h.fs (by decide))).grownF flat_co hg2 (h.cs.above l1), ⟨f, (hm.kept hg (fun e => h.fs.not_at l2 e.symm)).kept hg2 (fun e => l3 (by injection e with e; first | exact e | exact e.symm)), hf⟩, h.low⟩
end
end Go.Proofs.Ytegdigfcgeoboaa
/- A map's entry and its store, for maps whose elements are any values. No condition. -/
namespace Go.Proofs.Ytegdigfcgeoboaa
open Go.RowKit Go.Maps Go.WideShapes Go.ChangeMaps Go.ChangeMaps

theorem MapIs.of_heap {P : Program} {k : TypeId} {w w' : World} {b n : Nat} {f : Lit → Option Value} (h : MapIs P k w b n f) (e : w'.heap[b]? = w.heap[b]?) : MapIs P k w' b n f := by
  obtain ⟨D, ⟨es, clock, hb, F, hs, rfl⟩, hf⟩ := h
  exact ⟨_, ⟨es, clock, e.trans hb, F, hs, rfl⟩, hf⟩
theorem MapIs.entry {P : Program} {k t e : TypeId} {w : World} {b n : Nat} {f : Lit → Option Value} {z key : Value} {kl : Lit} (h : MapIs P k w b n f) (L : WideMaps.KeyLaw P k) (K : Keyed P k) (ht : P.underlying t = some (.map k e)) (hz : ∀ u : World, (zeroValue e).run P u = .ok z u) (hn : n < maxLen) (hkey : keyOf P k key = some kl) :
    ∃ (v0 : Value) (st : Nat) (w1 : World), (Instr.mapEntry t (.map (some b)) key).run P w = .ok (.tuple #[v0, goInt st]) w1 ∧ w.grownBy w1 (some b) ∧
      ∀ (w2 : World) (val : Value), w2.heap[b]? = w1.heap[b]? → ∃ w3, (Instr.entryStore t (.map (some b)) (goInt st) val).run P w2 = .ok () w3 ∧ w2.grownBy w3 (some b) ∧ MapIs P k w3 b (n + 1) (putF f kl val) := by
  have h0 := h
  obtain ⟨D, ⟨es, clock, hb, F, hs, rfl⟩, hf⟩ := h
  obtain ⟨v0, st, es1, clock1, hrun, _, hst⟩ := WideElems.entry_then_store L ht hz hb F hkey
  refine ⟨v0, st, _, hrun, ⟨rfl, rfl, rfl, by simp [setBlock], fun i _ hi => heap_setBlock_other hb _ (fun e => hi (by rw [e]))⟩, fun w2 val hw2 => ?_⟩
  have hw2' : w2.heap[b]? = some (.map es1 clock1) := hw2.trans (heap_setBlock_same hb _)
  obtain ⟨es', clock', hr1, hr2⟩ := hst w2 val hw2'
  obtain ⟨w', hr3, hm, _⟩ := h0.update K ht hn val hkey
  rw [hr2] at hr3
  injection hr3 with _ hr3
  subst hr3
  exact ⟨_, hr1, ⟨rfl, rfl, rfl, by simp [setBlock], fun i _ hi => heap_setBlock_other hw2' _ (fun e => hi (by rw [e]))⟩, hm.of_heap ((heap_setBlock_same hw2' _).trans (heap_setBlock_same hb _).symm)⟩
theorem ok_inj2 {α : Type} {a a' : α} {w w' : World} (h : Result.ok a w = Result.ok a' w') : a = a' ∧ w = w' := by injection h with h1 h2; exact ⟨h1, h2⟩
theorem MapIs.entryLook {P : Program} {k t e : TypeId} {w : World} {b n : Nat} {f : Lit → Option Value} {z key : Value} {kl : Lit} (h : MapIs P k w b n f) (L : WideMaps.KeyLaw P k) (K : Keyed P k) (ht : P.underlying t = some (.map k e)) (hz : ∀ u : World, (zeroValue e).run P u = .ok z u) (hn : n < maxLen) (hkey : keyOf P k key = some kl) {V : Value} {w1 : World}
    (hr : (Instr.mapEntry t (.map (some b)) key).run P w = .ok V w1) (w2 : World) (hw2 : w2.heap[b]? = w1.heap[b]?) : (Instr.lookup t (.map (some b)) key false).run P w2 = .ok ((f kl).getD z) w2 := by
  have h0 := h
  have hlk := h.look K ht (hz w) hkey false
  obtain ⟨D, ⟨es, clock, hb, F, hs, rfl⟩, hf⟩ := h
  rcases L.find w hkey es.toList F.keys with ⟨h1, h2⟩ | ⟨j, e0, h1, h2, h3⟩
  · have hr' : (Instr.mapEntry t (.map (some b)) key).run P w = .ok (.tuple #[z, goInt clock]) (setBlock w b (.map (es.push ⟨key, z, clock⟩) (clock + 1))) := by
      simp [Instr.mapEntry, run_underlying ht, MapKept.run_getObj_map hb, L.check w false hkey, h1, hz, MapKept.run_setObj_map _ hb, Result.andThen, setBlock]
    have hu' : (Instr.mapUpdate t (.map (some b)) key z).run P w = .ok () (setBlock w b (.map (es.push ⟨key, z, clock⟩) (clock + 1))) := by
      simp [Instr.mapUpdate, run_underlying ht, MapKept.run_getObj_map hb, L.check w false hkey, h1, MapKept.run_setObj_map _ hb, Result.andThen, setBlock]
    have hl' : (Instr.lookup t (.map (some b)) key false).run P w = .ok z w := by
      simp [Instr.lookup, run_underlying ht, MapKept.run_getObj_map hb, L.check w es.isEmpty hkey, h1, hz, Result.andThen]
    have hw1 := (ok_inj2 (hr.symm.trans hr')).2
    obtain ⟨w', hr3, hm, _⟩ := h0.update K ht hn z hkey
    rw [hu'] at hr3
    have hr3 := (ok_inj2 hr3).2
    rw [hl'] at hlk
    have hlk := (ok_inj2 hlk).1
    have hm2 : MapIs P k w2 b (n + 1) (putF f kl z) := hm.of_heap (by rw [hw2, hw1, hr3])
    have := hm2.look K ht (hz w2) hkey false
    rw [this]
    have e1 : (putF f kl z kl).getD z = z := by unfold putF; rw [WideAt.sameKey_self (K.key hkey)]; rfl
    have e2 : z = (f kl).getD z := hlk
    show Result.ok ((putF f kl z kl).getD z) w2 = _
    rw [e1, ← e2]
  · have hj : es[j]? = some e0 := by simpa using h2
    have hsame : es.modify j (fun e => { e with key := key }) = es := by
      apply Array.ext'
      rw [Array.toList_modify, modify_eq_set _ _ _ _ h2]
      have : ({ e0 with key := key } : MapEntry) = e0 := by rw [← h3]
      rw [this]
      exact WideElems.set_self _ _ _ h2
    have hr' : (Instr.mapEntry t (.map (some b)) key).run P w = .ok (.tuple #[e0.val, goInt e0.born]) (setBlock w b (.map es clock)) := by
      simp [Instr.mapEntry, run_underlying ht, MapKept.run_getObj_map hb, L.check w false hkey, h1, hj, h3, L.stays w hkey, hsame, MapKept.run_setObj_map _ hb, Result.andThen, setBlock]
    have hw1 := (ok_inj2 (hr.symm.trans hr')).2
    exact (h0.of_heap (w' := w2) (by rw [hw2, hw1, heap_setBlock_same hb _, hb])).look K ht (hz w2) hkey false
theorem MapIs.noCell {P : Program} {k : TypeId} {w : World} {b n o : Nat} {f : Lit → Option Value} (h : MapIs P k w b n f) : w.cell? ⟨b, o, none⟩ = none := by
  obtain ⟨D, ⟨es, clock, hb, F, hs, rfl⟩, hf⟩ := h
  simp [World.cell?, hb]
theorem law90 : WideMaps.KeyLaw Try.prog 90 := deep_law_laid laidOut (m := 100) (by decide) (k := 90) (of_decide_eq_true (by kernel_rfl)) (by kernel_rfl) (by kernel_rfl)
end Go.Proofs.Ytegdigfcgeoboaa
/- The lookup of the bits in the reader's map. -/
namespace Go.Proofs.Ytegdigfcgeoboaa
open Go.RowKit Go.Maps
attribute [local go_sem ↓] Go.wp_at_zero Go.wp_at_succ

theorem zero3 (u : World) : (zeroValue 3).run Try.prog u = .ok (.int .i64 0) u := by kernel_rfl
theorem getD_int {o : Option Value} {n : Int} (h : o.getD (.int .i64 0) = .int .i64 n) : o.getD (.int .i64 0) = .int .i64 n := h
theorem Rd.map_lt {w : World} {base R m : Nat} {vs vu vf vc : Value} {s : RS} (h : Rd w base R m vs vu vf vc s) : m < w.heap.size := by
  obtain ⟨f, h1, _⟩ := h.map; exact h1.lt
/-- the lookup of the bits -/
theorem Rd.look {w w' : World} {base R m : Nat} {vs vu vf vc : Value} {s : RS} (h : Rd w base R m vs vu vf vc s) (hw : w'.heap[m]? = w.heap[m]?) {k r : Int} (hk : 1 ≤ k ∧ k ≤ 3) (hr : u8k r) :
    (Instr.lookup 81 (.map (some m)) (.agg #[.int .u8 k, .int .u8 r]) false).run Try.prog w' = .ok (.int .i64 (bitsS s.fields k r)) w' := by
  obtain ⟨f, h1, h2⟩ := h.map
  have := (h1.of_heap hw).look keyed90 Try.underlying81 (zero3 w') (key_pair (a := k) (b := r) ⟨by omega, by omega⟩ hr) false
  unfold pairV at this
  rw [this]
  have e := h2 k r hk hr
  show Result.ok ((f (kL k r)).getD (.int .i64 0)) w' = _
  rw [e]
end Go.Proofs.Ytegdigfcgeoboaa
/- The reader's field. (UNDER WAY) -/
namespace Go.Proofs.Ytegdigfcgeoboaa
open Go.RowKit Go.Maps
attribute [local go_sem ↓] Go.wp_at_zero Go.wp_at_succ

set_option maxRecDepth 100000 in
set_option maxHeartbeats 1000000 in
theorem field_closed {w : World} {base R m : Nat} {vs vu vf vc : Value} {s : RS} (h : Rd w base R m vs vu vf vc s) (hb : base ≤ w.heap.size) (hs : s.Fine) (k : Int) (x : It) (c : s.opn < 0) :
    Calls Try.prog 60 #[.pointer (some ⟨R, 0, none⟩), .int .u8 k, itV x] w (Did base R m w (fieldS s k x)) := by
  have hE : fieldS s k x = (4, s) := by unfold fieldS; rw [if_pos c]
  rw [hE]
  have c5 : w.cell? ⟨R, 5, none⟩ = some (.int .u32 s.g.report) := cell_heap h.box (o := 5) rfl
  have c10 : w.cell? ⟨R, 10, none⟩ = some (.int .i64 s.opn) := cell_heap h.box (o := 10) rfl
  have hRl := heap_lt h.box
  unfold itV
  go_enter Try.func60, Try.ntmps60
  go_wp2_with fail
  go_ret
  exact ⟨rfl, Fr.kept (by go_grown) hb, fun e => by cases e⟩
end Go.Proofs.Ytegdigfcgeoboaa
/- The reader's field: the limits. (UNDER WAY) -/
namespace Go.Proofs.Ytegdigfcgeoboaa
open Go.RowKit Go.Maps
attribute [local go_sem ↓] Go.wp_at_zero Go.wp_at_succ

set_option maxRecDepth 100000 in
set_option maxHeartbeats 1000000 in
theorem field_small {w : World} {base R m : Nat} {vs vu vf vc : Value} {s : RS} (h : Rd w base R m vs vu vf vc s) (hb : base ≤ w.heap.size) (hs : s.Fine) (k : Int) (x : It) (c : ¬ s.opn < 0) (c1 : s.g.size < 1) :
    Calls Try.prog 60 #[.pointer (some ⟨R, 0, none⟩), .int .u8 k, itV x] w (Did base R m w (fieldS s k x)) := by
  have hE : fieldS s k x = (3, s) := by unfold fieldS; rw [if_neg c, if_pos (.inl c1)]
  rw [hE]
  have c' : 0 ≤ s.opn := by omega
  have c3 : w.cell? ⟨R, 3, none⟩ = some (.int .u32 s.g.size) := cell_heap h.box (o := 3) rfl
  have c5 : w.cell? ⟨R, 5, none⟩ = some (.int .u32 s.g.report) := cell_heap h.box (o := 5) rfl
  have c10 : w.cell? ⟨R, 10, none⟩ = some (.int .i64 s.opn) := cell_heap h.box (o := 10) rfl
  have hRl := heap_lt h.box
  unfold itV
  go_enter Try.func60, Try.ntmps60
  go_upto_region 4 with (fail)
  go_quiet (fail)
  go_wp2_with fail
  go_ret
  exact ⟨rfl, Fr.kept (below_drewN (by go_grown) _) hb, fun e => by cases e⟩
end Go.Proofs.Ytegdigfcgeoboaa
