/- The law of the chapter on reports, part 2: Td Mv Ra Pc Pd Bu Sa. -/
import Derived.Test.YtegdigfcgeoboaaK1
import Derived.Maps.Views
import Derived.Maps.OwnOps
import Derived.Maps.OwnSet
import Derived.StringKeys
import Derived.DeepKeys4
import Derived.Test.YtegdigfcgeoboaaChecked
import Derived.Deep.RegionHeld3
import Derived.Deep.DrawnRows
import Derived.Deep.DeepCutAuto
import Derived.Deep.LoopGhost
import Derived.Outline
import Derived.Handy
import Derived.OwnWalk
import Derived.Laws.BitsAllLaws
set_option maxHeartbeats 16000000
set_option linter.unusedVariables false
set_option linter.unusedSimpArgs false
set_option linter.unusedSectionVars false
namespace Go.Proofs.Ytegdigfcgeoboaa
open Go.RowKit
theorem data_lt {x : It} (h : x.wide = true) (hok : x.ok) : 0 ≤ x.data ∧ x.data < 4294967296 ∧ (x.size = 0 → x.data = 0) ∧ (x.size = 1 → x.data < 256) ∧ (x.size = 2 → x.data < 65536) ∧ (x.size = 0 ∨ x.size = 1 ∨ x.size = 2 ∨ x.size = 4) := by
 obtain ⟨_, _, _, _, h5⟩ := wide_iff h hok
 have hd := hok.2.2.2
 unfold u32k at hd
 rcases h5 with ⟨e, q⟩ | ⟨e, q⟩ | ⟨e, q⟩ | e <;> refine ⟨hd.1, hd.2, ?_, ?_, ?_, ?_⟩ <;> omega
theorem sign_range {x : It} (h : x.wide = true) (hok : x.ok) : -2147483648 ≤ signS x ∧ signS x ≤ 2147483647 := by
 obtain ⟨h0, h1, h2, h3, h4, h5⟩ := data_lt h hok
 unfold signS
 rcases h5 with e | e | e | e <;> rw [e] <;> simp <;> split <;> omega
theorem usage_range {s : RS} (hs : s.Fine) {x : It} (h : x.wide = true) (hok : x.ok) : u32k (usageS s x) := by
 obtain ⟨h0, h1, h2, h3, h4, h5⟩ := data_lt h hok
 have hp := hs.page
 unfold usageS u32k
 split
 ·exact ⟨h0, h1⟩
 ·omega
theorem add_fine {s : RS} (hs : s.Fine) {lo hi : Int} (hlo : u32k lo) (hhi : u32k hi) (hle : lo ≤ hi) (h0 : (addS s lo hi).1 = 0) : (addS s lo hi).2.Fine := by
 unfold addS at h0 ⊢
 split
 ·rename_i hc; rw [if_pos hc] at h0; cases h0
 ·rename_i hc
  unfold u32k at hlo hhi
  refine { hs with usages := ⟨?_, ?_⟩ }
  ·show (s.usages ++ _).length ≤ 512
   rw [List.length_append, List.length_map, List.length_range]
   omega
  ·intro u hu
   rcases List.mem_append.1 hu with h | h
   ·exact hs.usages.2 u h
   ·obtain ⟨i, hi', rfl⟩ := List.mem_map.1 h
    have := List.mem_range.1 hi'
    unfold u32k; omega
theorem field_fine {s : RS} (hs : s.Fine) {x : It} {k : Int} (h0 : (fieldS s k x).1 = 0) : (fieldS s k x).2.Fine := by
 unfold fieldS at h0 ⊢
 split
 ·rename_i hc; rw [if_pos hc] at h0; cases h0
 ·rename_i hc1
  rw [if_neg hc1] at h0
  split
  ·rename_i hc; rw [if_pos hc] at h0; cases h0
  ·rename_i hc2
   rw [if_neg hc2] at h0
   split
   ·rename_i hc; rw [if_pos hc] at h0; cases h0
   ·simp only [not_or] at hc2
    obtain ⟨a1, a2, a3, a4, a5, a6⟩ := hc2
    refine { hs with fields := ⟨?_, ?_⟩, bits := ?_ }
    ·show (s.fields ++ _).length ≤ 256
     rw [List.length_append, List.length_singleton]; omega
    ·intro f hf
     rcases List.mem_append.1 hf with h | h
     ·exact hs.fields.2 f h
     ·rw [List.mem_singleton.1 h]
      have hb := hs.bits k (s.g.report % 256)
      exact ⟨by show 1 ≤ s.g.size; omega, by show s.g.size ≤ 32; omega, by show 1 ≤ s.g.count; omega, by show s.g.count ≤ 256; omega, hb.1, hb.2, hs.usages.1⟩
    ·intro k' r'
     show 0 ≤ bitsS (s.fields ++ [fieldOf s k x]) k' r' ∧ bitsS (s.fields ++ [fieldOf s k x]) k' r' ≤ 4096
     rw [bitsS_snoc]
     have hb := hs.bits k' r'
     have hp : 0 ≤ s.g.size * s.g.count := Int.mul_nonneg (by omega) (by omega)
     split
     ·rename_i hkr
      have e : (fieldOf s k x).kind = k ∧ (fieldOf s k x).report = s.g.report % 256 := ⟨rfl, rfl⟩
      rw [e.1, e.2] at hkr
      simp only [Bool.and_eq_true, beq_iff_eq] at hkr
      rw [hkr.1, hkr.2] at a5
      show 0 ≤ bitsS s.fields k' r' + s.g.size * s.g.count ∧ bitsS s.fields k' r' + s.g.size * s.g.count ≤ 4096
      omega
     ·omega
theorem clear_fine {s : RS} (hs : s.Fine) (x : It) : (clearS s x).Fine := by
 unfold clearS
 split
 ·exact { hs with usages := ⟨by simp, fun u hu => by cases hu⟩ }
 ·exact hs
theorem eff_fine {s : RS} (hs : s.Fine) {x : It} (h : x.wide = true) (hok : x.ok) (h0 : (effS s x).1 = 0) : (effS s x).2.Fine := by
 obtain ⟨d0, d1, _⟩ := data_lt h hok
 have hsg := sign_range h hok
 have hu := usage_range hs h hok
 unfold effS at h0 ⊢
 by_cases t0 : x.ty = 0
 ·rw [if_pos t0] at h0 ⊢
  by_cases g8 : x.tg = 8
  ·rw [if_pos g8] at h0 ⊢; exact field_fine hs h0
  rw [if_neg g8] at h0 ⊢
  by_cases g9 : x.tg = 9
  ·rw [if_pos g9] at h0 ⊢; exact field_fine hs h0
  rw [if_neg g9] at h0 ⊢
  by_cases g11 : x.tg = 11
  ·rw [if_pos g11] at h0 ⊢; exact field_fine hs h0
  rw [if_neg g11] at h0 ⊢
  by_cases g10 : x.tg = 10
  ·rw [if_pos g10] at h0 ⊢
   by_cases c : 64 ≤ s.colls.length
   ·rw [if_pos c] at h0; cases h0
   rw [if_neg c]
   refine { hs with opn := ⟨?_, ?_⟩, colls := ⟨?_, ?_⟩ }
   ·show -1 ≤ (s.colls.length : Int); omega
   ·show (s.colls.length : Int) < ((s.colls ++ _).length : Int); rw [List.length_append, List.length_singleton]; omega
   ·show (s.colls ++ _).length ≤ 64; rw [List.length_append, List.length_singleton]; omega
   ·intro c' hc'
    show u8k c'.kind ∧ u32k c'.usage ∧ -1 ≤ c'.parent ∧ c'.parent < ((s.colls ++ _).length : Int)
    rw [List.length_append, List.length_singleton]
    rcases List.mem_append.1 hc' with h1 | h1
    ·have := hs.colls.2 c' h1; refine ⟨this.1, this.2.1, this.2.2.1, by omega⟩
    ·rw [List.mem_singleton.1 h1]
     refine ⟨by show u8k (x.data % 256); unfold u8k; omega, ?_, hs.opn.1, by have := hs.opn.2; show s.opn < _; omega⟩
     show u32k (s.usages.headD 0)
     cases hu' : s.usages with
     | nil => unfold u32k; simp
     | cons a l => exact hs.usages.2 a (by rw [hu']; exact List.mem_cons_self)
  rw [if_neg g10] at h0 ⊢
  by_cases g12 : x.tg = 12
  ·rw [if_pos g12] at h0 ⊢
   by_cases c : s.opn < 0
   ·rw [if_pos c] at h0; cases h0
   rw [if_neg c]
   have ho := hs.opn
   obtain ⟨c', hc'⟩ : ∃ c', s.colls[s.opn.toNat]? = some c' := ⟨_, List.getElem?_eq_getElem (by omega)⟩
   have hm := hs.colls.2 c' (List.mem_of_getElem? hc')
   refine { hs with opn := ?_ }
   show -1 ≤ ((s.colls[s.opn.toNat]?).map Co.parent).getD (-1) ∧ ((s.colls[s.opn.toNat]?).map Co.parent).getD (-1) < (s.colls.length : Int)
   rw [hc']
   exact hm.2.2
  rw [if_neg g12] at h0; cases h0
 rw [if_neg t0] at h0 ⊢
 by_cases t1 : x.ty = 1
 ·rw [if_pos t1] at h0 ⊢
  by_cases g0 : x.tg = 0
  ·rw [if_pos g0] at h0 ⊢
   by_cases c : 65535 < x.data
   ·rw [if_pos c] at h0; cases h0
   rw [if_neg c]
   exact { hs with page := ⟨d0, by show x.data ≤ 65535; omega⟩ }
  rw [if_neg g0] at h0 ⊢
  by_cases g1 : x.tg = 1
  ·rw [if_pos g1]; exact { hs with lo := hsg }
  rw [if_neg g1] at h0 ⊢
  by_cases g2 : x.tg = 2
  ·rw [if_pos g2]; exact { hs with hi := hsg }
  rw [if_neg g2] at h0 ⊢
  by_cases g3 : x.tg = 3 ∨ x.tg = 4 ∨ x.tg = 5 ∨ x.tg = 6
  ·rw [if_pos g3]; exact hs
  rw [if_neg g3] at h0 ⊢
  by_cases g7 : x.tg = 7
  ·rw [if_pos g7]; exact { hs with size := ⟨d0, d1⟩ }
  rw [if_neg g7] at h0 ⊢
  by_cases g8 : x.tg = 8
  ·rw [if_pos g8] at h0 ⊢
   by_cases c : x.data < 1 ∨ 255 < x.data
   ·rw [if_pos c] at h0; cases h0
   rw [if_neg c]
   exact { hs with report := ⟨d0, by show x.data ≤ 255; omega⟩ }
  rw [if_neg g8] at h0 ⊢
  by_cases g9 : x.tg = 9
  ·rw [if_pos g9]; exact { hs with count := ⟨d0, d1⟩ }
  rw [if_neg g9] at h0 ⊢
  by_cases g10 : x.tg = 10
  ·rw [if_pos g10] at h0 ⊢
   by_cases c : 8 ≤ s.stack.length
   ·rw [if_pos c] at h0; cases h0
   rw [if_neg c]
   refine { hs with stack := ?_, depth := ?_ }
   ·intro g hg
    rcases List.mem_append.1 hg with h1 | h1
    ·exact hs.stack g h1
    ·rw [List.mem_singleton.1 h1]; exact ⟨hs.page, hs.size, hs.count, hs.report, hs.lo, hs.hi⟩
   ·show (s.stack ++ _).length ≤ 8; rw [List.length_append, List.length_singleton]; omega
  rw [if_neg g10] at h0 ⊢
  by_cases g11 : x.tg = 11
  ·rw [if_pos g11] at h0 ⊢
   cases hl : s.stack.getLast? with
   | none => rw [hl] at h0; cases h0
   | some g =>
    have hg := hs.stack g (List.mem_of_getLast? hl)
    refine { hs with page := hg.1, size := hg.2.1, count := hg.2.2.1, report := hg.2.2.2.1, lo := hg.2.2.2.2.1, hi := hg.2.2.2.2.2, stack := fun g' hg' => hs.stack g' (List.dropLast_subset _ hg'), depth := ?_ }
    show s.stack.dropLast.length ≤ 8
    have := hs.depth
    rw [List.length_dropLast]; omega
  rw [if_neg g11] at h0; cases h0
 rw [if_neg t1] at h0 ⊢
 by_cases t2 : x.ty = 2
 ·rw [if_pos t2] at h0 ⊢
  by_cases g0 : x.tg = 0
  ·rw [if_pos g0] at h0 ⊢; exact add_fine hs hu hu (Int.le_refl _) h0
  rw [if_neg g0] at h0 ⊢
  by_cases g1 : x.tg = 1
  ·rw [if_pos g1]; exact { hs with kept := hu }
  rw [if_neg g1] at h0 ⊢
  by_cases g2 : x.tg = 2
  ·rw [if_pos g2] at h0 ⊢
   by_cases c : s.keeps = false ∨ usageS s x / 65536 ≠ s.kept / 65536 ∨ usageS s x < s.kept
   ·rw [if_pos c] at h0; cases h0
   rw [if_neg c] at h0 ⊢
   simp only [not_or] at c
   exact add_fine (s := { s with keeps := false }) { hs with } hs.kept hu (by have := c.2.2; omega) h0
  rw [if_neg g2] at h0; cases h0
 rw [if_neg t2] at h0; cases h0
theorem run_fine : ∀ (l : List It) (s : RS), s.Fine → (∀ x ∈ l, x.wide = true ∧ x.ok) → (runS l s).1 = 0 → (runS l s).2.Fine
 | [], s, hs, _, _ => hs
 | x :: l, s, hs, hl, h0 => by
  unfold runS at h0 ⊢
  by_cases he : (effS s x).1 ≠ 0
  ·rw [if_pos he] at h0; exact absurd h0 he
  ·rw [if_neg he] at h0 ⊢
   have hx := hl x List.mem_cons_self
   exact run_fine l _ (clear_fine (eff_fine hs hx.1 hx.2 (by simpa using he)) x) (fun y hy => hl y (List.mem_cons_of_mem _ hy)) h0
end Go.Proofs.Ytegdigfcgeoboaa
namespace Go.Proofs.Ytegdigfcgeoboaa
open Go.RowKit Go.WideShapes Go.Maps
def anyR (v : Value) : Option (DataW Value × List MemPlace) := some (.held v, [])
def heldO : Option Value → DataW Value | some v => .held v | none => .nil
def MapIs (P : Program) (k : TypeId) (w : World) (b n : Nat) (f : Lit → Option Value) : Prop :=
 ∃ D, w.ownsMap P k anyR b n D ∧ ∀ kl, KeysOf P k kl → D.atKey kl .nil = heldO (f kl)
def putF (f : Lit → Option Value) (kl : Lit) (v : Value) : Lit → Option Value := fun x => if x.sameKey kl then some v else f x
section
variable {P : Program} {k t e : TypeId} {w : World} {b n : Nat} {f : Lit → Option Value} {z key : Value} {kl : Lit}
theorem MapIs.lt (h : MapIs P k w b n f) : b < w.heap.size := by obtain ⟨D, h, _⟩ := h; exact h.lt
theorem MapIs.kept {w' : World} {row : Option Nat} (h : MapIs P k w b n f) (hg : w.grownBy w' row) (hne : some b ≠ row) : MapIs P k w' b n f := by
 obtain ⟨D, h, hf⟩ := h; exact ⟨D, h.kept hg hne, hf⟩
theorem MapIs.keep {w' : World} (h : MapIs P k w b n f) (hk : Kept w w') : MapIs P k w' b n f := h.kept (grown_of_kept hk none) (by simp)
theorem MapIs.made (w : World) (P : Program) (k : TypeId) : MapIs P k (w.alloc (.map #[] 0)) w.heap.size 0 (fun _ => none) :=
 ⟨_, World.ownsMap_made w P k anyR, fun _ _ => rfl⟩
theorem MapIs.look (h : MapIs P k w b n f) (K : Keyed P k) (ht : P.underlying t = some (.map k e)) (hz : (zeroValue e).run P w = .ok z w) (hkey : keyOf P k key = some kl) (c : Bool) :
  (Instr.lookup t (.map (some b)) key c).run P w = .ok (if c then .tuple #[(f kl).getD z, .bool (f kl).isSome] else (f kl).getD z) w := by
 obtain ⟨D, ⟨es, clock, hb, F, hs, rfl⟩, hf⟩ := h
 have h0 := hf kl ⟨key, hkey⟩
 rcases fit_look c K ht hz hb F hkey with ⟨hrun, _, hat⟩ | ⟨e0, y, _, _, hrun, hR, hat, _⟩
 ·rw [hat .nil] at h0
  cases hk : f kl with
  | none => rw [hrun]; rfl
  | some v => rw [hk] at h0; cases h0
 ·rw [hat .nil] at h0
  have hy : y = (.held e0.val, []) := by have := hR; unfold anyR at this; injection this with this; exact this.symm
  rw [hy] at h0
  cases hk : f kl with
  | none => rw [hk] at h0; cases h0
  | some v =>
   rw [hk] at h0
   have e : e0.val = v := by injection h0
   rw [hrun, e]; rfl
theorem MapIs.update (h : MapIs P k w b n f) (K : Keyed P k) (ht : P.underlying t = some (.map k e)) (hn : n < maxLen) (val : Value) (hkey : keyOf P k key = some kl) :
  ∃ w', (Instr.mapUpdate t (.map (some b)) key val).run P w = .ok () w' ∧ MapIs P k w' b (n + 1) (putF f kl val) ∧ w.grownBy w' (some b) := by
 obtain ⟨D, h, hf⟩ := h
 have hmap : IsMap D := h.isMap
 obtain ⟨w', hrun, h1, h2⟩ := h.update K ht hn hkey (val := val) (d := .held val) (ps := []) rfl
 refine ⟨w', hrun, ⟨_, h1, fun kx hx => ?_⟩, h2⟩
 unfold putF
 by_cases hne : kx = kl
 ·subst hne
  rw [atKey_put_same hmap (K.key hkey), WideAt.sameKey_self (K.key hkey)]; rfl
 ·rw [atKey_put_other hne, sameKey_ne hne, hf kx hx]; rfl
end
section
variable {P : Program} (w : World) {ops : Array Oper} {rest : List Oper} {o : Oper} {a : Act} {Q : Exit → Act → World → Prop}
theorem wpList_look_any (hg : o.guard = none) (m x : Operand) (t : TypeId) (c : Bool) (hop : o.op = Op.lookup t m x c)
  (k e : TypeId) (K : Keyed P k) (ht : P.underlying t = some (.map k e)) {z : Value} (hz : (zeroValue e).run P w = .ok z w) (b n : Nat) (f : Lit → Option Value)
  (hm : a.eval m = .map (some b)) (hown : MapIs P k w b n f) (key : Value) (kl : Lit) (hx : a.eval x = key) (hkey : keyOf P k key = some kl)
  (hK : wpList P ops Q rest (a.put o.dst (if c then .tuple #[(f kl).getD z, .bool (f kl).isSome] else (f kl).getD z)) w) :
  wpList P ops Q (o :: rest) a w := by
 refine wpList_plain hg fun K' hK' => ?_
 have hrun := hown.look K ht hz hkey c
 generalize (if c then Value.tuple #[(f kl).getD z, .bool (f kl).isSome] else (f kl).getD z) = V at *
 unfold Oper.wp
 simp [execOp, hop, hm, hx, hrun, Result.andThen]
 exact hK' _ _ hK
end
end Go.Proofs.Ytegdigfcgeoboaa
namespace Go.Proofs.Ytegdigfcgeoboaa
open Go.RowKit Go.Maps
theorem laidOut : laidOutB Try.prog = true := by kernel_rfl
theorem keyed90 : Keyed Try.prog 90 := Keyed.of_law (deep_law_laid laidOut (m := 100) (by decide) (k := 90) (of_decide_eq_true (by kernel_rfl)) (by kernel_rfl) (by kernel_rfl))
def pairV (a b : Int) : Value := .agg #[.int .u8 a, .int .u8 b]
theorem key_fin : ∀ a : Fin 16, ∀ b : Fin 256, (keyOf Try.prog 90 (pairV a.val b.val)).isSome = true := by decide +kernel
noncomputable def kL (a b : Int) : Lit := (keyOf Try.prog 90 (pairV a b)).getD .nil
theorem key_pair {a b : Int} (ha : 0 ≤ a ∧ a < 16) (hb : u8k b) : keyOf Try.prog 90 (pairV a b) = some (kL a b) := by
 unfold u8k at hb
 obtain ⟨n, rfl⟩ := Int.eq_ofNat_of_zero_le ha.1
 obtain ⟨m, rfl⟩ := Int.eq_ofNat_of_zero_le hb.1
 have h := key_fin ⟨n, by omega⟩ ⟨m, by omega⟩
 obtain ⟨l, hl⟩ := Option.isSome_iff_exists.1 h
 unfold kL
 have hl' : keyOf Try.prog 90 (pairV (n : Int) (m : Int)) = some l := hl
 rw [hl']; rfl
set_option maxRecDepth 100000 in
theorem kL_lit {a b : Int} (ha : 0 ≤ a ∧ a < 16) (hb : u8k b) : WideAt.IsKeyLit (kL a b) := by
 have h := key_pair ha hb
 generalize kL a b = l at *
 exact Keyed.key keyed90 h
set_option maxRecDepth 100000 in
theorem kL_inj {a b c d : Int} (ha : 0 ≤ a ∧ a < 16) (hb : u8k b) (hc : 0 ≤ c ∧ c < 16) (hd : u8k d) (h : kL a b = kL c d) : a = c ∧ b = d := by
 have h1 := key_pair ha hb
 have h2 := key_pair hc hd
 rw [h] at h1
 have h3 := keyed90.inj h1 h2
 unfold pairV at h3
 injection h3 with h3
 injection h3 with h3
 injection h3 with h4 h5
 injection h5 with h5 _
 injection h4 with _ h4
 injection h5 with _ h5
 exact ⟨h4, h5⟩
set_option maxRecDepth 100000 in
theorem kL_same {a b c d : Int} (ha : 0 ≤ a ∧ a < 16) (hb : u8k b) (hc : 0 ≤ c ∧ c < 16) (hd : u8k d) : (kL a b).sameKey (kL c d) = (a == c && b == d) := by
 by_cases h : a = c ∧ b = d
 ·obtain ⟨rfl, rfl⟩ := h
  have hk := kL_lit ha hb
  generalize kL a b = l at *
  rw [WideAt.sameKey_self hk]
  simp
 ·rw [sameKey_ne (fun e => h (kL_inj ha hb hc hd e))]
  symm
  simp only [Bool.and_eq_false_iff, beq_eq_false_iff_ne]
  by_cases e : a = c
  ·exact .inr (fun e2 => h ⟨e, e2⟩)
  ·exact .inl e
end Go.Proofs.Ytegdigfcgeoboaa
namespace Go.Proofs.Ytegdigfcgeoboaa
open Go.RowKit
theorem since_below {N : Nat} {W w' w1 : World} (h : (∀ b o, b < N → w'.cell? ⟨b, o, none⟩ = W.cell? ⟨b, o, none⟩) ∧ Below N W w') (hb : Below N w' w1) :
  (∀ b o, b < N → w1.cell? ⟨b, o, none⟩ = W.cell? ⟨b, o, none⟩) ∧ Below N W w1 :=
 ⟨fun b o hlt => (hb.cell (p := ⟨b, o, none⟩) hlt).trans (h.1 b o hlt), h.2.trans hb⟩
theorem since_alloc {N : Nat} {W w' : World} {x : Obj} (h : (∀ b o, b < N → w'.cell? ⟨b, o, none⟩ = W.cell? ⟨b, o, none⟩) ∧ Below N W w') (hN : N ≤ W.heap.size) :
  (∀ b o, b < N → (w'.alloc x).cell? ⟨b, o, none⟩ = W.cell? ⟨b, o, none⟩) ∧ Below N W (w'.alloc x) :=
 since_below h ((Below.refl _ _).alloc (Nat.le_trans hN h.2.size) x)
theorem flat_take {size : Nat} : ∀ (css : List (List Value)) (i : Nat) (c : List Value), (∀ c ∈ css, c.length = size) → css[i]? = some c → (css.flatten.drop (i * size)).take size = c
 | [], i, c, _, h => by simp at h
 | x :: r, 0, c, hs, h => by
  have e : x = c := by simpa using h
  subst e
  have hl := hs x (by simp)
  simp [List.flatten_cons, ← hl]
 | x :: r, i + 1, c, hs, h => by
  have hl := hs x (by simp)
  have ih := flat_take r i c (fun c hc => hs c (by simp [hc])) (by simpa using h)
  rw [List.flatten_cons, Nat.succ_mul, Nat.add_comm, List.drop_append, hl, Nat.add_sub_cancel_left]
  rw [List.drop_of_length_le (by omega), List.nil_append]
  exact ih
theorem flat_len {size : Nat} : ∀ (css : List (List Value)), (∀ c ∈ css, c.length = size) → css.flatten.length = css.length * size
 | [], _ => by simp
 | x :: r, hs => by
  rw [List.flatten_cons, List.length_append, flat_len r (fun c hc => hs c (by simp [hc])), hs x (by simp), List.length_cons, Nat.succ_mul, Nat.add_comm]
theorem flat_range {size : Nat} {w : World} {b : Nat} : ∀ (css : List (List Value)) (off : Nat), (∀ c ∈ css, c.length = size) → (∀ i c, css[i]? = some c → w.rangeAt b (off + i * size) c) → w.rangeAt b off css.flatten
 | [], _, _, _ => range_nil
 | x :: r, off, hs, h => by
  have hl := hs x (by simp)
  have ih := flat_range r (off + size) (fun c hc => hs c (by simp [hc])) (fun i c hc => by
   have := h (i + 1) c (by simpa using hc)
   rwa [Nat.succ_mul, show off + (i * size + size) = off + size + i * size by omega] at this)
  intro j v hv
  rw [List.flatten_cons] at hv
  by_cases hj : j < x.length
  ·rw [List.getElem?_append_left hj] at hv
   have := h 0 x (by simp) j v hv
   simpa using this
  ·rw [List.getElem?_append_right (by omega)] at hv
   have := ih (j - x.length) v hv
   rwa [show off + size + (j - x.length) = off + j by omega] at this
theorem list_of' {α : Type} {Q : Nat → α → Prop} : ∀ (n : Nat), (∀ i, i < n → ∃ a, Q i a) → ∃ xs : List α, xs.length = n ∧ ∀ i x, xs[i]? = some x → Q i x
 | 0, _ => ⟨[], rfl, fun i x h => by simp at h⟩
 | n + 1, h => by
  obtain ⟨xs, hl, hq⟩ := list_of' n (fun i hi => h i (by omega))
  obtain ⟨a, ha⟩ := h n (by omega)
  refine ⟨xs ++ [a], by simp [hl], fun i x hx => ?_⟩
  by_cases hi : i < n
  ·rw [List.getElem?_append_left (by omega)] at hx; exact hq i x hx
  ·have : i = n := by have := (List.getElem?_eq_some_iff.1 hx).1; simp at this; omega
   subst this
   rw [List.getElem?_append_right (by omega), hl, Nat.sub_self] at hx
   have e : a = x := by simpa using hx
   rw [← e]; exact ha
theorem Sl.cells {α : Type} {t : Ty α} {w : World} {F : Nat → Prop} {A : Option Addr} {n : Nat} {xs : List α} (h : Sl t w F A n xs) : ∃ news : List Value, news.length = n * t.size ∧
  (0 < n → ∃ b off, A = some ⟨b, off, none⟩ ∧ F b ∧ w.rangeAt b off news) ∧ ∀ i x, xs[i]? = some x → t.rel w F x ((news.drop (i * t.size)).take t.size) := by
 by_cases hn : n = 0
 ·subst hn
  refine ⟨[], by simp, fun h => absurd h (by omega), fun i x hx => ?_⟩
  rw [List.eq_nil_of_length_eq_zero h.1] at hx; simp at hx
 ·obtain ⟨x0, b, off, cs0, _, hA, hb, _, _⟩ := h.at (k := 0) (by omega)
  have hq : ∀ i, i < n → ∃ c : List Value, (∃ x, xs[i]? = some x ∧ t.rel w F x c) ∧ w.rangeAt b (off + i * t.size) c := by
   intro i hi
   obtain ⟨x, b', off', cs, hx, hA', _, hr, hc⟩ := h.at hi
   rw [hA] at hA'
   injection hA' with e
   injection e with e1 e2
   subst e1 e2
   exact ⟨cs, ⟨x, hx, hr⟩, hc⟩
  obtain ⟨css, hl, hcs⟩ := list_of' (Q := fun i c => (∃ x, xs[i]? = some x ∧ t.rel w F x c) ∧ w.rangeAt b (off + i * t.size) c) n hq
  have hs : ∀ c ∈ css, c.length = t.size := fun c hc => by
   obtain ⟨i, hi, e⟩ := List.getElem_of_mem hc
   obtain ⟨⟨x, _, hr⟩, _⟩ := hcs i c (by rw [List.getElem?_eq_getElem hi, e])
   exact t.len hr
  refine ⟨css.flatten, by rw [flat_len css hs, hl], fun _ => ⟨b, off, hA, hb, flat_range css off hs (fun i c hc => (hcs i c hc).2)⟩, fun i x hx => ?_⟩
  have hi : i < css.length := by rw [hl, ← h.1]; exact (List.getElem?_eq_some_iff.1 hx).1
  obtain ⟨⟨y, hy, hr⟩, _⟩ := hcs i css[i] (List.getElem?_eq_getElem hi)
  rw [flat_take css i css[i] hs (List.getElem?_eq_getElem hi)]
  rw [hx] at hy; injection hy with e; rw [e]; exact hr
theorem run_append_nil {P : Program} (w : World) (base : Nat) (t ty e : TypeId) (i : TypeInfo) (size : Nat) (ht : P.underlying t = some (.slice e)) (hi : P.info? e = some i)
  (v : Value) (n : Nat) (xs : List Value) (hown : w.ownsRow base e size v n xs) (c : Nat) : (Builtin.append_ #[t, t] ty #[v, .slice none 0 c]).run P w = .ok v w := by
 rcases hown.2 with ⟨rfl, rfl⟩ | ⟨g, cap, cur, rfl, _, _, hnc, _⟩
 ·simp [Builtin.append_, run_underlying ht, sizeOf, typeInfo, hi, Builtin.lenOf, Builtin.firstCells]
 ·simp [Builtin.append_, run_underlying ht, sizeOf, typeInfo, hi, Builtin.lenOf, Builtin.firstCells, hnc, storeCells]
theorem run_append_sl {α : Type} {T : Ty α} {P : Program} {W : World} (t ty : TypeId)
  (base : Nat) (e : TypeId) (i : TypeInfo) (z : Value) (bytes : Nat) (ht : P.underlying t = some (.slice e)) (hi : P.info? e = some i) (hz : i.zero = some z)
  (hsize : i.size = T.size) (hby : i.bytes = bytes) (hzs : z.cells.size = T.size) (hsz : 0 < T.size)
  (v : Value) (n : Nat) (xs : List α) (hown : Own T e base W v n xs)
  (A : Option Addr) (m c : Nat) (ys : List α) (hsl : Sl T W (apart W v) A m ys) (h1 : ∀ x cs, T.rel W (apart W v) x cs → ∀ u ∈ cs, u.oneCell' = true)
  (h63 : n + m ≤ maxLen) (hbytes : (n + m) * bytes ≤ 140737488355328) (hbase : base ≤ W.heap.size) :
  ∃ v' w', (Builtin.append_ #[t, t] ty #[v, .slice A m c]).run P W = .ok v' w' ∧ Own T e base w' v' (n + m) (xs ++ ys) ∧ W.grownBy w' v.ownBlock ∧ Below base W w' ∧ (v'.ownBlock = v.ownBlock ∨ v'.ownBlock = some W.heap.size) := by
 obtain ⟨hl, cells, h2, h3⟩ := hown
 obtain ⟨news, hnl, hnc, hnr⟩ := hsl.cells
 have hone : ∀ u ∈ news, u.oneCell' = true := by
  intro u hu
  obtain ⟨k, hk, e⟩ := List.getElem_of_mem hu
  have hq : k / T.size < m := by rw [Nat.div_lt_iff_lt_mul hsz]; omega
  obtain ⟨y, _, _, _, hy, _⟩ := hsl.at hq
  refine h1 y _ (hnr _ y hy) u ?_
  have hmod := Nat.mod_lt k hsz
  have hdm := Nat.div_add_mod k T.size
  rw [List.mem_iff_getElem?]
  refine ⟨k % T.size, ?_⟩
  rw [List.getElem?_take_of_lt hmod, List.getElem?_drop, Nat.mul_comm, hdm, ← e]
  exact List.getElem?_eq_getElem _
 have hrun : ∃ v' w', (Builtin.append_ #[t, t] ty #[v, .slice A m c]).run P W = .ok v' w' ∧ w'.ownsRow base e T.size v' (n + m) (cells ++ news) ∧ W.grownBy w' v.ownBlock ∧ (v'.ownBlock = v.ownBlock ∨ v'.ownBlock = some W.heap.size) := by
  by_cases hm : m = 0
  ·subst hm
   have hnil : news = [] := List.eq_nil_of_length_eq_zero (by simpa using hnl)
   subst hnil
   cases A with
   | none => exact ⟨v, W, run_append_nil W base t ty e i T.size ht hi v n cells h2 c, by simpa using h2, World.grownBy.refl W _, .inl rfl⟩
   | some ad =>
    obtain ⟨v', w', hr, a1, a2, _, a4⟩ := run_append_own_at (P := P) W base t ty e i z T.size bytes ht hi hz hsize hby hzs hsz v n cells h2 ad 0 c [] (by simp) (fun j u h => by simp at h) (fun u h => by cases h) h63 hbytes hbase
    exact ⟨v', w', hr, a1, a2, a4⟩
  ·obtain ⟨b, off, rfl, _, hra⟩ := hnc (by omega)
   obtain ⟨v', w', hr, a1, a2, _, a4⟩ := run_append_own_at (P := P) W base t ty e i z T.size bytes ht hi hz hsize hby hzs hsz v n cells h2 ⟨b, off, none⟩ m c news hnl (fun j u hu => by rw [Addr.add_mid]; exact hra j u hu) hone h63 hbytes hbase
   exact ⟨v', w', hr, a1, a2, a4⟩
 obtain ⟨v', w', hr, ho', hg, hat⟩ := hrun
 have hc : cells.length = n * T.size := h2.1
 have hys := hsl.1
 refine ⟨v', w', hr, ⟨by simp [hl, hys], cells ++ news, ho', fun j y hy => ?_⟩, hg, (Below.refl _ _).grown hg hbase (fun k hk => (h2.lt k hk).1), hat⟩
 have hk : ∀ b o, apart W v b → w'.cell? ⟨b, o, none⟩ = W.cell? ⟨b, o, none⟩ := fun b o hb => World.cell?_of_block (a := ⟨b, o, none⟩) (hg.block b hb.1 (fun e => hb.2 e.symm))
 have hF : ∀ b, apart W v b → apart w' v' b := fun b hb => ⟨Nat.lt_of_lt_of_le hb.1 hg.size, fun e => by
  rcases hat with h | h
  ·exact hb.2 (by rw [← h, e])
  ·rw [h] at e; injection e with e; have := hb.1; omega⟩
 by_cases hj : j < n
 ·rw [List.getElem?_append_left (by omega)] at hy
  have hle : (j + 1) * T.size ≤ n * T.size := Nat.mul_le_mul_right _ hj
  rw [Nat.succ_mul] at hle
  have e1 : ((cells ++ news).drop (j * T.size)).take T.size = (cells.drop (j * T.size)).take T.size := by
   rw [List.drop_append_of_le_length (by omega), List.take_append_of_le_length (by simp; omega)]
  rw [e1]
  exact T.keep (h3 j y hy) hF hk
 ·rw [List.getElem?_append_right (by omega)] at hy
  rw [hl] at hy
  have e2 : j * T.size = cells.length + (j - n) * T.size := by rw [hc, ← Nat.add_mul]; congr 1; omega
  rw [e2, List.drop_append, Nat.add_sub_cancel_left, List.drop_of_length_le (by omega), List.nil_append]
  exact T.keep (hnr _ y hy) hF hk
theorem wp_append_sl {α : Type} {T : Ty α} {P : Program} {W : World} {o : Oper} {a : Act} {K : Act → World → Prop} {Q : Exit → Act → World → Prop} (s x : Operand) (t : TypeId)
  (ho : o.op = .call { callee := .builtin .append, args := #[s, x], argTypes := #[t, t] })
  (base : Nat) (e : TypeId) (i : TypeInfo) (z : Value) (bytes : Nat) (ht : P.underlying t = some (.slice e)) (hi : P.info? e = some i) (hz : i.zero = some z)
  (hsize : i.size = T.size) (hby : i.bytes = bytes) (hzs : z.cells.size = T.size) (hsz : 0 < T.size)
  (v : Value) (n : Nat) (xs : List α) (hs : a.eval s = v) (hown : Own T e base W v n xs)
  (A : Option Addr) (m c : Nat) (ys : List α) (hx : a.eval x = .slice A m c) (hsl : Sl T W (apart W v) A m ys) (h1 : ∀ x cs, T.rel W (apart W v) x cs → ∀ u ∈ cs, u.oneCell' = true)
  (h63 : n + m ≤ maxLen) (hbytes : (n + m) * bytes ≤ 140737488355328) (hbase : base ≤ W.heap.size)
  (h : ∀ v' w', Own T e base w' v' (n + m) (xs ++ ys) → W.grownBy w' v.ownBlock → Below base W w' → (v'.ownBlock = v.ownBlock ∨ v'.ownBlock = some W.heap.size) → K (a.put o.dst v') w') : o.wp P a W K Q := by
 obtain ⟨v', w', hrun, h2, h3, h4, h5⟩ := run_append_sl (P := P) t o.type base e i z bytes ht hi hz hsize hby hzs hsz v n xs hown A m c ys hsl h1 h63 hbytes hbase
 unfold Oper.wp execOp
 simp only [ho, resolve, invoke, builtin, Sem.run_bind, Sem.run_pure, Result.andThen_ok, List.map_toArray, List.map_cons, List.map_nil, hs, hx, hrun]
 exact h v' w' h2 h3 h4 h5
theorem step_append_sl {α : Type} {T : Ty α} {P : Program} {W : World} {ops : Array Oper} {o : Oper} {a : Act} {K : Act → World → Prop} {Q : Exit → Act → World → Prop} {E : Prop} (hgd : o.guard = none) (s x : Operand) (t : TypeId)
  (ho : o.op = .call { callee := .builtin .append, args := #[s, x], argTypes := #[t, t] })
  (base : Nat) (e : TypeId) (i : TypeInfo) (z : Value) (bytes : Nat) (ht : P.underlying t = some (.slice e)) (hi : P.info? e = some i) (hz : i.zero = some z)
  (hsize : i.size = T.size) (hby : i.bytes = bytes) (hzs : z.cells.size = T.size) (hsz : 0 < T.size)
  (v : Value) (n : Nat) (xs : List α) (hs : a.eval s = v) (hown : Own T e base W v n xs)
  (A : Option Addr) (m c : Nat) (ys : List α) (hx : a.eval x = .slice A m c) (hsl : Sl T W (apart W v) A m ys) (h1 : ∀ x cs, T.rel W (apart W v) x cs → ∀ u ∈ cs, u.oneCell' = true)
  (h63 : n + m ≤ maxLen) (hbytes : (n + m) * bytes ≤ 140737488355328) (hbase : base ≤ W.heap.size)
  (h : ∀ v' w', Own T e base w' v' (n + m) (xs ++ ys) → W.grownBy w' v.ownBlock → Below base W w' → (v'.ownBlock = v.ownBlock ∨ v'.ownBlock = some W.heap.size) → K (a.put o.dst v') w') :
  if Region.wanted o (yielded ops a.tmps) = true then Oper.wp P o a W K Q else E := by
 have hw : Region.wanted o (yielded ops a.tmps) = true := by simp [Region.wanted, hgd]
 rw [if_pos hw]
 exact wp_append_sl s x t ho base e i z bytes ht hi hz hsize hby hzs hsz v n xs hs hown A m c ys hx hsl h1 h63 hbytes hbase h
theorem heap_grown {w w' : World} {n : Nat} {u : Obj} {row : Option Nat} (hg : w.grownBy w' row) (h : w.heap[n]? = some u) (hne : some n ≠ row) : w'.heap[n]? = some u := (hg.block n (Array.getElem?_eq_some_iff.1 h).1 hne).trans h
theorem sl_apart {α : Type} {t : Ty α} {N n : Nat} {W W' : World} {A : Option Addr} {xs : List α} {v : Value} (h : Sl t W (low N) A n xs) (hS : (∀ b o, b < N → W'.cell? ⟨b, o, none⟩ = W.cell? ⟨b, o, none⟩) ∧ Below N W W') (hN : N ≤ W.heap.size)
  (hv : ∀ g, v.ownBlock = some g → N ≤ g) : Sl t W' (apart W' v) A n xs :=
 h.keep (fun b hb => ⟨Nat.lt_of_lt_of_le (Nat.lt_of_lt_of_le hb hN) hS.2.size, fun e => by have := hv b e; have : b < N := hb; omega⟩) (fun b o hb => hS.1 b o hb)
theorem Own.lit0 {α : Type} (t : Ty α) (e : TypeId) (w : World) {base b : Nat} (hb : base ≤ b) (h : w.heap[b]? = some (.cells #[] e (0, 0))) : Own t e base w (.slice (some ⟨b, 0, none⟩) 0 0) 0 [] :=
 ⟨rfl, [], ⟨by simp, .inr ⟨b, 0, #[], rfl, hb, h, Nat.le_refl _, by decide, by simp, by simp⟩⟩, fun i x h => by simp at h⟩
section
variable {α : Type} {t : Ty α} {e : TypeId} {w w' : World} {base b0 n : Nat} {v : Value} {xs : List α}
end
theorem heap_store {w : World} {g i : Nat} {cs : Array Value} {t : TypeId} (hg : w.heap[g]? = some (.cells cs t (0, 0))) (v : Value) : (w.setCell ⟨g, i, none⟩ v).heap[g]? = some (.cells (cs.setIfInBounds i v) t (0, 0)) := heap_setCell_same w g i cs t v hg
theorem heap_other {w : World} {a : Addr} {k : Nat} {v : Value} {u : Obj} (h : w.heap[k]? = some u) (hne : k ≠ a.block) : (w.setCell a v).heap[k]? = some u := (heap_setCell_other w a k v hne).trans h
theorem cell_heap {w : World} {g o : Nat} {cs : Array Value} {t : TypeId} {v : Value} (h : w.heap[g]? = some (.cells cs t (0, 0))) (hv : cs[o]? = some v) : w.cell? ⟨g, o, none⟩ = some v := (cell_of_row _ _ _ _ _ _ h).trans hv
theorem frozen_heap {w : World} {g o : Nat} {cs : Array Value} {t : TypeId} (h : w.heap[g]? = some (.cells cs t (0, 0))) : w.frozen? ⟨g, o, none⟩ = false := frozen_of_row w g o cs t h
theorem heap_lt {w : World} {n : Nat} {u : Obj} (h : w.heap[n]? = some u) : n < w.heap.size := (Array.getElem?_eq_some_iff.1 h).1
theorem grown_at {v w1 : World} {X : Nat} (h : v.grownBy w1 (some X)) (o : Nat) (u : Value) : v.grownBy (w1.setCell ⟨X, o, none⟩ u) (some X) :=
 ⟨h.os, h.tape, h.output, by rw [World.size_setCell]; exact h.size, fun k hk hne => (Below.heap_setCell _ _ _ k (fun e => hne (by rw [e]))).trans (h.block k hk hne)⟩
theorem grown_self {v : World} {X : Nat} : v.grownBy v (some X) := ⟨rfl, rfl, rfl, Nat.le_refl _, fun _ _ _ => rfl⟩
theorem wpList_append_sl {α : Type} {T : Ty α} {P : Program} {W : World} {ops : Array Oper} {rest : List Oper} {o : Oper} {a : Act} {Q : Exit → Act → World → Prop} (hgd : o.guard = none) (s x : Operand) (t : TypeId)
  (ho : o.op = .call { callee := .builtin .append, args := #[s, x], argTypes := #[t, t] })
  (base : Nat) (e : TypeId) (i : TypeInfo) (z : Value) (bytes : Nat) (ht : P.underlying t = some (.slice e)) (hi : P.info? e = some i) (hz : i.zero = some z)
  (hsize : i.size = T.size) (hby : i.bytes = bytes) (hzs : z.cells.size = T.size) (hsz : 0 < T.size)
  (v : Value) (n : Nat) (xs : List α) (hs : a.eval s = v) (hown : Own T e base W v n xs)
  (A : Option Addr) (m c : Nat) (ys : List α) (hx : a.eval x = .slice A m c) (hsl : Sl T W (apart W v) A m ys) (h1 : ∀ x cs, T.rel W (apart W v) x cs → ∀ u ∈ cs, u.oneCell' = true)
  (h63 : n + m ≤ maxLen) (hbytes : (n + m) * bytes ≤ 140737488355328) (hbase : base ≤ W.heap.size)
  (h : ∀ v' w', Own T e base w' v' (n + m) (xs ++ ys) → W.grownBy w' v.ownBlock → Below base W w' → (v'.ownBlock = v.ownBlock ∨ v'.ownBlock = some W.heap.size) → wpList P ops Q rest (a.put o.dst v') w') : wpList P ops Q (o :: rest) a W :=
 wpList_plain hgd fun _ hK => wp_append_sl s x t ho base e i z bytes ht hi hz hsize hby hzs hsz v n xs hs hown A m c ys hx hsl h1 h63 hbytes hbase fun v' w' h1 h2 h3 h4 => hK _ _ (h v' w' h1 h2 h3 h4)
end Go.Proofs.Ytegdigfcgeoboaa
namespace Go.Proofs.Ytegdigfcgeoboaa
open Go.RowKit
attribute [local go_sem ↓] Go.wp_at_zero Go.wp_at_succ
theorem Sl.drop {α : Type} {t : Ty α} {w : World} {F : Nat → Prop} {b off n k : Nat} {xs : List α} (h : Sl t w F (some ⟨b, off, none⟩) n xs) : Sl t w F (some ⟨b, off + k * t.size, none⟩) (n - k) (xs.drop k) :=
 ⟨by rw [List.length_drop, h.1], fun i x hx => by
  rw [List.getElem?_drop] at hx
  obtain ⟨b', off', cs, e, hb, hr, hc⟩ := h.2 _ x hx
  injection e with e
  injection e with e1 e2 _
  subst e1 e2
  exact ⟨b, off + k * t.size, cs, rfl, hb, hr, by rw [show off + k * t.size + i * t.size = off + (k + i) * t.size by rw [Nat.add_mul, Nat.add_assoc]]; exact hc⟩⟩
theorem Sl.take {α : Type} {t : Ty α} {w : World} {F : Nat → Prop} {A : Option Addr} {n k : Nat} {xs : List α} (h : Sl t w F A n xs) (hk : k ≤ n) : Sl t w F A k (xs.take k) :=
 ⟨by rw [List.length_take, h.1]; omega, fun i x hx => h.2 i x (by rw [List.getElem?_take] at hx; split at hx; exact hx; cases hx)⟩
theorem Sl.empty {α : Type} {t : Ty α} {w : World} {F : Nat → Prop} {A : Option Addr} {n : Nat} {xs : List α} (h : Sl t w F A n xs) (h0 : n = 0) (B : Option Addr) : Sl t w F B n xs := by
 subst h0
 rw [List.eq_nil_of_length_eq_zero h.1]
 exact Sl.nil _ _ _ _
theorem head23 (b off n c k : Nat) (hk : k ≤ c) : (∀ W, (Instr.slice 23 (.slice (some ⟨b, off, none⟩) n c) none (some (.int .i64 (k : Int))) none).run Try.prog W = .ok (.slice (some ⟨b, off, none⟩) k c) W) ∧
  (∀ W, (Instr.sliceAt 23 (.slice (some ⟨b, off, none⟩) n c) none (some (.int .i64 (k : Int))) none).run Try.prog W = .ok (.slice (some ⟨b, off, none⟩) k c) W) := by
 have hel : Try.prog.elem 23 = 5 := by kernel_rfl
 have hs : ∀ W, (Instr.slice 23 (.slice (some ⟨b, off, none⟩) n c) none (some (.int .i64 (k : Int))) none).run Try.prog W = .ok (.slice (some ⟨b, off, none⟩) k c) W := fun W => by
  rw [run_slice_h (w := W) 23 _ n c (by rw [hel]; exact Try.underlying23) .i64 k (by omega) (by omega), hel, Try.sizeOf5]
  by_cases hkc : c = 0
  ·simp [sliced, hkc]
  ·simp [sliced, hkc, Addr.add]
 exact ⟨hs, fun W => by rw [run_sliceAt_slice (w := W) 23 _ _ _ _ (by rw [hel]; exact Try.underlying23), hs]⟩
theorem clip25 (A : Option Addr) (n c : Nat) (hn : n ≤ c) (hc : c ≤ maxLen) (w : World) : Calls Try.prog 25 #[.slice A n c] w fun e w' => e = .returned (.slice A n n) ∧ w = w' := by
 unfold maxLen at hc
 go_enter Try.func25, Try.ntmps25
 go_wp2
 go_ret
 exact ⟨rfl, rfl⟩
theorem clip27 (A : Option Addr) (n c : Nat) (hn : n ≤ c) (hc : c ≤ maxLen) (w : World) : Calls Try.prog 27 #[.slice A n c] w fun e w' => e = .returned (.slice A n n) ∧ w = w' := by
 unfold maxLen at hc
 go_enter Try.func27, Try.ntmps27
 go_wp2
 go_ret
 exact ⟨rfl, rfl⟩
theorem u8_at {w w' : World} {B n k : Nat} {A : Option Addr} {l : List Int} (h : Sl u8T w (low B) A n l) (hb : Below B w w') (hk : k < n) : ∃ x b off, l[k]? = some x ∧ A = some ⟨b, off, none⟩ ∧ b < B ∧ b < w'.heap.size ∧ u8k x ∧
  w'.cell? ⟨b, off + k, none⟩ = some (.int .u8 x) := by
 obtain ⟨x, b, off, cs, hx, hA, hbb, ⟨rfl, h1⟩, hc⟩ := h.at hk
 have hc' := range_below hc hb hbb
 have h0 := hc' 0 _ rfl
 simp only [u8T, Ty.flat, Nat.mul_one, Nat.add_zero] at h0
 exact ⟨x, b, off, hx, hA, hbb, World.block_lt_of_cell? w' _ h0, h1, h0⟩
theorem numB_snoc : ∀ (l : List Int) (x : Int), numB (l ++ [x]) = numB l + x * 256 ^ l.length
 | [], x => by simp [numB]
 | b :: l, x => by
  have ih := numB_snoc l x
  rw [List.cons_append]
  simp only [numB, List.length_cons]
  rw [ih, Int.pow_succ, Int.mul_add]
  rw [show 256 * (x * 256 ^ l.length) = x * (256 ^ l.length * 256) by rw [← Int.mul_assoc, Int.mul_comm 256 x, Int.mul_assoc, Int.mul_comm 256]]
  omega
theorem Sl.u8 {w : World} {F : Nat → Prop} {A : Option Addr} {n : Nat} {l : List Int} (h : Sl u8T w F A n l) : ∀ x ∈ l, u8k x := by
 intro x hx
 obtain ⟨i, hi, e⟩ := List.getElem_of_mem hx
 obtain ⟨b, off, cs, _, _, ⟨_, h1⟩, _⟩ := h.2 i x (by rw [List.getElem?_eq_getElem hi, e])
 exact h1
theorem or_low (a b k : Nat) (h : a < 2 ^ k) : a ||| b * 2 ^ k = a + b * 2 ^ k := by
 have := Nat.shiftLeft_add_eq_or_of_lt h b
 rw [Nat.shiftLeft_eq] at this
 rw [Nat.or_comm, ← this, Nat.add_comm]
theorem or16 (a b : Nat) (h : a < 65536) : a ||| b * 65536 = a + b * 65536 := or_low a b 16 h
theorem or24 (a b : Nat) (h : a < 16777216) : a ||| b * 16777216 = a + b * 16777216 := or_low a b 24 h
set_option maxRecDepth 100000 in
theorem number_any (A : Option Addr) (n c : Nat) (bs : List Int) (w : World) (hn : n ≤ 4) (hl : Sl u8T w (low w.heap.size) A n bs) :
  Calls Try.prog 38 #[.slice A n c] w fun e w' => e = .returned (.int .u32 (numB bs)) ∧ w' = w := by
 have hll := hl.1
 have hu := hl.u8
 have Hl := hide hl
 clear hl
 go_enter Try.func38, Try.ntmps38
 go_wp2_with fail
 go_loopg [3, 8] n (fun g s3 s8 wr => ∃ k : Nat, k + g = n ∧ s8 = .int .i64 k ∧ s3 = .int .u32 (numB (bs.take k)) ∧ wr = w)
 case atStart => exact ⟨0, by omega, rfl, rfl, rfl⟩
 case round =>
  obtain ⟨k, hk, rfl, rfl, rfl⟩ := hrel
  by_cases hlt : k < n
  ·obtain ⟨x, b, off, hx, rfl, hb, hbr, hxu, hcell⟩ := u8_at Hl.out (Below.refl _ _) hlt
   have hsn : numB (bs.take (k + 1)) = numB (bs.take k) + x * 256 ^ k := by
    obtain ⟨h1, h2⟩ := List.getElem?_eq_some_iff.1 hx
    rw [List.take_succ_eq_append_getElem h1, h2, numB_snoc, List.length_take, show min k bs.length = k by omega]
   have hrg := numB_range (bs.take k) (fun y hy => hu y (List.mem_of_mem_take hy))
   rw [List.length_take, show min k bs.length = k by omega] at hrg
   have Hsn := hide hsn
   clear hsn hx hu
   generalize numB (bs.take k) = a at *
   obtain ⟨an, rfl⟩ := Int.eq_ofNat_of_zero_le hrg.1
   unfold u8k at hxu
   obtain ⟨xn, rfl⟩ := Int.eq_ofNat_of_zero_le hxu.1
   have hlt' : (k : Int) < (n : Int) := by omega
   rcases (by omega : k = 0 ∨ k = 1 ∨ k = 2 ∨ k = 3) with rfl | rfl | rfl | rfl
   ·have hO : bits .or .u32 (an : Int) (xn : Int) = (an : Int) + (xn : Int) := by
     have h1 := u32_or_nat an xn (by omega) (by omega)
     have h2 := or_low an xn 0 (by omega)
     rw [Nat.pow_zero, Nat.mul_one] at h2
     rw [h2] at h1
     push_cast at h1
     exact h1
    rw [Nat.add_zero] at hcell
    go_wp2_with fail
    go_roundg (gk - 1)
    case measure => omega
    case rel => exact ⟨1, by omega, by go_num, by rw [Hsn.out]; simp, rfl⟩
   ·have hO : bits .or .u32 (an : Int) ((xn : Int) * 256) = (an : Int) + (xn : Int) * 256 := by
     have h1 := u32_or_nat an (xn * 256) (by omega) (by omega)
     rw [or_low an xn 8 (by omega)] at h1
     push_cast at h1
     exact h1
    go_wp2_with fail
    go_roundg (gk - 1)
    case measure => omega
    case rel => exact ⟨2, by omega, by go_num, by rw [Hsn.out]; simp, rfl⟩
   ·have hO : bits .or .u32 (an : Int) ((xn : Int) * 65536) = (an : Int) + (xn : Int) * 65536 := by
     have h1 := u32_or_nat an (xn * 65536) (by omega) (by omega)
     rw [or16 an xn (by omega)] at h1
     simp only [Int.natCast_add, Int.natCast_mul, Int.cast_ofNat_Int] at h1
     exact h1
    go_wp2_with fail
    go_roundg (gk - 1)
    case measure => omega
    case rel => exact ⟨3, by omega, by go_num, by rw [Hsn.out]; simp, rfl⟩
   ·have hO : bits .or .u32 (an : Int) ((xn : Int) * 16777216) = (an : Int) + (xn : Int) * 16777216 := by
     have h1 := u32_or_nat an (xn * 16777216) (by omega) (by omega)
     rw [or24 an xn (by omega)] at h1
     simp only [Int.natCast_add, Int.natCast_mul, Int.cast_ofNat_Int] at h1
     exact h1
    go_wp2_with fail
    go_roundg (gk - 1)
    case measure => omega
    case rel => exact ⟨4, by omega, by go_num, by rw [Hsn.out]; simp, rfl⟩
  ·have hkn : k = n := by omega
   have hlt' : (n : Int) ≤ (k : Int) := by omega
   have e : bs.take k = bs := List.take_of_length_le (by omega)
   rw [e]
   clear e
   go_wp2_with fail
   go_ret
   exact ⟨rfl, rfl⟩
end Go.Proofs.Ytegdigfcgeoboaa
