/- Small functions, continued. -/
import Derived.Test.YtjgncofhobhjdaaDoorChecked
import Derived.Deep.RegionHeld3
import Derived.Deep.DrawnRows
import Derived.Deep.DeepCutAuto
import Derived.Deep.LoopGhost
import Derived.Outline
import Derived.Handy
import Derived.OwnWalk
import Derived.BigQuiet
import Derived.Test.YtjgncofhobhjdaaDoorN4
import Derived.Test.YtjgncofhobhjdaaDoorN1
import Derived.Test.YtjgncofhobhjdaaDoorN2
set_option linter.unusedVariables false
set_option linter.unusedSimpArgs false
set_option linter.unusedSectionVars false
/- Clone of bytes and of endpoints; worlds that keep all from a block on. Printed by gen_sw.py. -/
namespace Go.Proofs.YtjgncofhobhjdaaDoor
open Go.RowKit
attribute [local go_sem ↓] Go.wp_at_zero Go.wp_at_succ

/-- all that was there, from a block on, is as it was -/
structure From (base : Nat) (w w' : World) : Prop where
  size : w.heap.size ≤ w'.heap.size
  same : ∀ b, base ≤ b → b < w.heap.size → w'.heap[b]? = w.heap[b]?
section
variable {base : Nat} {w w' w'' : World}
theorem From.refl : From base w w := ⟨Nat.le_refl _, fun _ _ _ => rfl⟩
theorem From.trans (h : From base w w') (k : From base w' w'') : From base w w'' := ⟨Nat.le_trans h.size k.size, fun b h1 h2 => (k.same b h1 (Nat.lt_of_lt_of_le h2 h.size)).trans (h.same b h1 h2)⟩
theorem From.kept (h : Kept w w') : From base w w' := ⟨h.size, fun b _ h2 => h.block b h2⟩
theorem From.set {p : Addr} (u : Value) (h : p.block < base) : From base w (w.setCell p u) := ⟨by rw [World.size_setCell]; exact Nat.le_refl _, fun b h1 _ => Below.heap_setCell _ _ _ b (by omega)⟩
theorem From.mono (h : From base w w') {b2 : Nat} (hb : base ≤ b2) : From b2 w w' := ⟨h.size, fun b h1 h2 => h.same b (Nat.le_trans hb h1) h2⟩
theorem From.heap (h : From base w w') {b : Nat} {o : Obj} (hb : base ≤ b) (ho : w.heap[b]? = some o) : w'.heap[b]? = some o := (h.same b hb (heap_lt ho)).trans ho
theorem From.cell (h : From base w w') {b o : Nat} (hb : base ≤ b) (hl : b < w.heap.size) : w'.cell? ⟨b, o, none⟩ = w.cell? ⟨b, o, none⟩ := by
  unfold World.cell?
  simp only [h.same b hb hl]
/-- a row of the call's own has grown, that began behind the world's end -/
theorem From.grown {row : Option Nat} (h : w.grownBy w' row) (w0 : World) (hf : From base w0 w) (hr : ∀ b, row = some b → w0.heap.size ≤ b) : From base w0 w' :=
  ⟨Nat.le_trans hf.size h.size, fun b h1 h2 => (h.block b (Nat.lt_of_lt_of_le h2 hf.size) (fun e => by have := hr b e.symm; omega)).trans (hf.same b h1 h2)⟩
theorem From.set' {p : Addr} (u : Value) (w0 : World) (hf : From base w0 w) (h : p.block < base ∨ w0.heap.size ≤ p.block) : From base w0 (w.setCell p u) :=
  ⟨by rw [World.size_setCell]; exact hf.size, fun b h1 h2 => (Below.heap_setCell _ _ _ b (by omega)).trans (hf.same b h1 h2)⟩
theorem From.kept' (w0 : World) (hf : From base w0 w) (h : Kept w w') : From base w0 w' := hf.trans (From.kept h)
theorem Own.from_ {α : Type} {t : Ty α} {e : TypeId} {n : Nat} {v : Value} {xs : List α} (h : Own (t.on fun b => base ≤ b) e base w v n xs) (hf : From base w w') : Own (t.on fun b => base ≤ b) e base w' v n xs := by
  obtain ⟨h1, cells, ⟨h2, h2'⟩, h3⟩ := h
  refine ⟨h1, cells, ⟨h2, ?_⟩, fun i x hx => t.keep (h3 i x hx) (fun b hb => ⟨⟨Nat.lt_of_lt_of_le hb.1.1 hf.size, hb.1.2⟩, hb.2⟩) (fun b o hb => hf.cell hb.2 hb.1.1)⟩
  rcases h2' with h | ⟨g, cap, cur, hv, hg, hh, r⟩
  · exact .inl h
  · exact .inr ⟨g, cap, cur, hv, hg, hf.heap hg hh, r⟩
end
theorem by_oneEp : ∀ (F : Nat → Prop) (w : World) (x : EpD) (cs : List Value), epT.rel w F x cs → ∀ u ∈ cs, u.oneCell' = true := by
  intro F w x cs h u hu
  obtain ⟨rfl, _⟩ : cs = x.cells ∧ x.ok := h
  simp [EpD.cells] at hu
  rcases hu with rfl | rfl | rfl | rfl | rfl <;> rfl
theorem flat_ep : Flat epT := fun {_ _ _ _ _ _} h => h
theorem own_flat_new {α : Type} {T : Ty α} (hT : Flat T) {e : TypeId} {w : World} {base n c : Nat} {A : Option Addr} {l : List α} (h : Own T e base w (.slice A n c) n l) : Sl T w (fun g => base ≤ g ∧ g < w.heap.size) A n l :=
  h.sl_of _ (fun g a b => ⟨a, b⟩) (fun _ _ hr => hT hr)
theorem eqlRowB (a : Addr) (n c : Nat) (w : World) : (binOp .eql 34 (.slice (some a) n c) (.slice none 0 0)).run Tryd.prog w = .ok (.bool false) w := by kernel_rfl
theorem eqlNoneB (n c : Nat) (w : World) : (binOp .eql 34 (.slice none n c) (.slice none 0 0)).run Tryd.prog w = .ok (.bool true) w := by kernel_rfl
set_option maxRecDepth 100000 in
set_option maxHeartbeats 1000000 in
theorem cloneB_any (A : Option Addr) (n c : Nat) (l : List Int) (w : World) (hn : n ≤ 1000000) (hl : Sl u8T w (low w.heap.size) A n l) :
    Calls Tryd.prog 60 #[.slice A n c] w fun e w' => (∃ A' c', e = .returned (.slice A' n c') ∧ n ≤ c' ∧ c' ≤ maxLen ∧ Sl u8T w' (fun g => w.heap.size ≤ g ∧ g < w'.heap.size) A' n l) ∧ Kept w w' := by
  obtain ⟨i3, hi3, hz30, hz31, hz32⟩ := info_parts info5
  cases A with
  | none =>
    have hn0 : n = 0 := by
      have h1 := hl.1
      cases l with
      | nil => simpa using h1.symm
      | cons x l =>
        obtain ⟨b, off, cs, e, _⟩ := hl.2 0 x rfl
        cases e
    subst hn0
    have hl0 : l = [] := List.eq_nil_of_length_eq_zero hl.1
    subst hl0
    have hE := eqlNoneB 0 c
    go_enter Tryd.func60, Tryd.ntmps60
    go_wp2
    go_ret
    exact ⟨⟨none, 0, rfl, Nat.le_refl _, by decide, Sl.nil _ _ _ _⟩, Below.refl _ _⟩
  | some a =>
    have hE := eqlRowB a n c
    go_enter Tryd.func60, Tryd.ntmps60
    go_wp2_with (at_builtin; refine wpList_append_sl (T := u8T) rfl (.tmp 5) (.tmp 6) 34 rfl w.heap.size 5 i3 _ 1 Tryd.underlying34 hi3 hz30 hz31 hz32 rfl (by decide) _ 0 [] (by rfl) (Own.lit0 u8T 5 _ (Nat.le_refl _) (heap_at _ rfl)) _ n c l (by rfl) (hl.keep (fun b hb => ⟨by have : b < w.heap.size := hb; simp; omega, by have : b < w.heap.size := hb; simp [Value.ownBlock]; omega⟩) (fun b o hb => by have : b < w.heap.size := hb; exact ((Below.refl _ _).alloc (Nat.le_refl _) _ : Kept w _).cell (p := ⟨b, o, none⟩) this)) (by_one8 _ _) (by unfold maxLen; omega) (by omega) (by simp) ?_; intro v7 w7 hown7 hg7 hb7 hat7)
    obtain ⟨A', c', rfl, hj1, hj2⟩ := hown7.isSlice
    rw [Nat.zero_add, List.nil_append] at hown7
    rw [Nat.zero_add] at hj1
    go_wp2
    go_ret
    exact ⟨⟨A', c', by simp, hj1, hj2, own_flat_new (fun {_ _ _ _ _ _} h => h) hown7⟩, Below.trans ((Below.refl _ _).alloc (Nat.le_refl _) _) hb7⟩
theorem eqlRowEp (a : Addr) (n c : Nat) (w : World) : (binOp .eql 54 (.slice (some a) n c) (.slice none 0 0)).run Tryd.prog w = .ok (.bool false) w := by kernel_rfl
theorem eqlNoneEp (n c : Nat) (w : World) : (binOp .eql 54 (.slice none n c) (.slice none 0 0)).run Tryd.prog w = .ok (.bool true) w := by kernel_rfl
set_option maxRecDepth 100000 in
set_option maxHeartbeats 1000000 in
theorem cloneEp_any (A : Option Addr) (n c : Nat) (l : List EpD) (w : World) (hn : n ≤ 1000000) (hl : Sl epT w (low w.heap.size) A n l) :
    Calls Tryd.prog 61 #[.slice A n c] w fun e w' => (∃ A' c', e = .returned (.slice A' n c') ∧ n ≤ c' ∧ c' ≤ maxLen ∧ Sl epT w' (fun g => w.heap.size ≤ g ∧ g < w'.heap.size) A' n l) ∧ Kept w w' := by
  obtain ⟨i3, hi3, hz30, hz31, hz32⟩ := info_parts infoEp
  cases A with
  | none =>
    have hn0 : n = 0 := by
      have h1 := hl.1
      cases l with
      | nil => simpa using h1.symm
      | cons x l =>
        obtain ⟨b, off, cs, e, _⟩ := hl.2 0 x rfl
        cases e
    subst hn0
    have hl0 : l = [] := List.eq_nil_of_length_eq_zero hl.1
    subst hl0
    have hE := eqlNoneEp 0 c
    go_enter Tryd.func61, Tryd.ntmps61
    go_wp2
    go_ret
    exact ⟨⟨none, 0, rfl, Nat.le_refl _, by decide, Sl.nil _ _ _ _⟩, Below.refl _ _⟩
  | some a =>
    have hE := eqlRowEp a n c
    go_enter Tryd.func61, Tryd.ntmps61
    go_wp2_with (at_builtin; refine wpList_append_sl (T := epT) rfl (.tmp 5) (.tmp 6) 54 rfl w.heap.size 59 i3 _ 8 Tryd.underlying54 hi3 hz30 hz31 hz32 rfl (by decide) _ 0 [] (by rfl) (Own.lit0 epT 59 _ (Nat.le_refl _) (heap_at _ rfl)) _ n c l (by rfl) (hl.keep (fun b hb => ⟨by have : b < w.heap.size := hb; simp; omega, by have : b < w.heap.size := hb; simp [Value.ownBlock]; omega⟩) (fun b o hb => by have : b < w.heap.size := hb; exact ((Below.refl _ _).alloc (Nat.le_refl _) _ : Kept w _).cell (p := ⟨b, o, none⟩) this)) (by_oneEp _ _) (by unfold maxLen; omega) (by omega) (by simp) ?_; intro v7 w7 hown7 hg7 hb7 hat7)
    obtain ⟨A', c', rfl, hj1, hj2⟩ := hown7.isSlice
    rw [Nat.zero_add, List.nil_append] at hown7
    rw [Nat.zero_add] at hj1
    go_wp2
    go_ret
    exact ⟨⟨A', c', by simp, hj1, hj2, own_flat_new flat_ep hown7⟩, Below.trans ((Below.refl _ _).alloc (Nat.le_refl _) _) hb7⟩
end Go.Proofs.YtjgncofhobhjdaaDoor
/- Two bytes, a number. Printed by gen_sf.py. -/
namespace Go.Proofs.YtjgncofhobhjdaaDoor
open Go.RowKit
attribute [local go_sem ↓] Go.wp_at_zero Go.wp_at_succ

theorem sl_bytes {w : World} {A : Option Addr} {n : Nat} {l : List Int} (h : Sl u8T w (low w.heap.size) A n l) (hn : 0 < n) : ∃ b off, A = some ⟨b, off, none⟩ ∧ b < w.heap.size ∧ ∀ i, i < n → w.cell? ⟨b, off + i, none⟩ = some (.int .u8 (byteAt l i)) := by
  obtain ⟨x, b, off, cs, hx, rfl, hb, _, _⟩ := h.at hn
  refine ⟨b, off, rfl, hb, fun i hi => ?_⟩
  obtain ⟨y, b', off', cs', hy, e, _, ⟨rfl, _⟩, hc⟩ := h.at hi
  injection e with e
  injection e with e1 e2
  subst e1 e2
  have h0 := hc 0 _ rfl
  have hby : byteAt l i = y := by unfold byteAt; rw [List.getD_eq_getElem?_getD, hy]; rfl
  rw [hby]
  simpa [u8T, Ty.flat] using h0
theorem sl_byte8 {w : World} {F : Nat → Prop} {A : Option Addr} {n : Nat} {l : List Int} (h : Sl u8T w F A n l) (i : Nat) : u8k (byteAt l i) := byteAt_u8 h.all8 i
theorem or16 {a b : Int} (ha : u8k a) (hb : u8k b) : bits BinOp.or IntKind.u16 a (b * 256) = a + 256 * b := by
  obtain ⟨a0, a1⟩ := ha
  obtain ⟨b0, b1⟩ := hb
  obtain ⟨n, rfl⟩ := Int.eq_ofNat_of_zero_le a0
  obtain ⟨m, rfl⟩ := Int.eq_ofNat_of_zero_le b0
  have h1 : (BitVec.ofInt 16 ((m : Int) * 256)).toNat = m * 256 := by
    rw [show (m : Int) * 256 = ((m * 256 : Nat) : Int) by omega, BitVec.ofInt_natCast, BitVec.toNat_ofNat]; exact Nat.mod_eq_of_lt (by omega)
  have h2 : (BitVec.ofInt 16 (n : Int)).toNat = n := by
    rw [BitVec.ofInt_natCast, BitVec.toNat_ofNat]; exact Nat.mod_eq_of_lt (by omega)
  show IntKind.u16.wrap ((BitVec.ofInt 16 (n : Int) ||| BitVec.ofInt 16 ((m : Int) * 256)).toNat : Int) = _
  have h3 := Nat.two_pow_add_eq_or_of_lt (i := 8) (b := n) (by omega) m
  rw [BitVec.toNat_or, h1, h2, Nat.or_comm, Nat.mul_comm m 256, ← h3, IntKind.wrap_u16]
  omega
theorem bit_f (n : Int) (h : u8k n) : (bits BinOp.and IntKind.u8 n 64 != 0) = (n / 64 % 2 == 1) ∧ (bits BinOp.and IntKind.u8 n 32 != 0) = (n / 32 % 2 == 1) ∧ (bits BinOp.and IntKind.u8 n 128 != 0) = (n / 128 % 2 == 1) ∧ bits BinOp.andNot IntKind.u8 n 128 = n % 128 := by
  have hk : ∀ k : Fin 256, (bits BinOp.and IntKind.u8 (k.val : Int) 64 != 0) = ((k.val : Int) / 64 % 2 == 1) ∧ (bits BinOp.and IntKind.u8 (k.val : Int) 32 != 0) = ((k.val : Int) / 32 % 2 == 1) ∧ (bits BinOp.and IntKind.u8 (k.val : Int) 128 != 0) = ((k.val : Int) / 128 % 2 == 1) ∧ bits BinOp.andNot IntKind.u8 (k.val : Int) 128 = (k.val : Int) % 128 := by decide +kernel
  obtain ⟨h0, h1⟩ := h
  have := hk ⟨n.toNat, by omega⟩
  rwa [show ((n.toNat : Nat) : Int) = n by omega] at this
set_option maxRecDepth 100000 in
set_option maxHeartbeats 4000000 in
theorem two_any (A : Option Addr) (n c i : Nat) (l : List Int) (w : World) (hl : Sl u8T w (low w.heap.size) A n l) (hi : i + 1 < n) (hi2 : i < 1000) :
    Calls Tryd.prog 79 #[.slice A n c, .int .i64 (i : Int)] w fun e w' => e = .returned (.int .u16 (byteAt l i + 256 * byteAt l (i + 1))) ∧ Kept w w' := by
  obtain ⟨b, off, rfl, hb, hc⟩ := sl_bytes hl (by omega)
  have h1 := sl_byte8 hl i
  have h2 := sl_byte8 hl (i + 1)
  have x0 := hc i (by omega)
  have x1 := hc (i + 1) (by omega)
  obtain ⟨p, hp⟩ : ∃ p, byteAt l i = p := ⟨_, rfl⟩
  obtain ⟨q, hq⟩ : ∃ q, byteAt l (i + 1) = q := ⟨_, rfl⟩
  rw [hp] at h1 x0 ⊢
  rw [hq] at h2 x1 ⊢
  have ho := or16 h1 h2
  obtain ⟨p0, p1⟩ := h1
  obtain ⟨q0, q1⟩ := h2
  have w1 : IntKind.u16.wrap p = p := by rw [IntKind.wrap_u16]; omega
  have w2 : IntKind.u16.wrap q = q := by rw [IntKind.wrap_u16]; omega
  have w3 : IntKind.u16.wrap (q * 256) = q * 256 := by rw [IntKind.wrap_u16]; omega
  have w4 : IntKind.i64.wrap ((i : Int) + 1) = ((i + 1 : Nat) : Int) := by rw [IntKind.wrap_i64]; omega
  have w5 : IntKind.i64.wrap ((i : Int) + 1) = (i : Int) + 1 := by rw [IntKind.wrap_i64]; omega
  have i0 : (0 : Int) ≤ (i : Int) := by omega
  have i1 : (i : Int) < (n : Int) := by omega
  have i2 : (0 : Int) ≤ ((i + 1 : Nat) : Int) := by omega
  have i3 : ((i + 1 : Nat) : Int) < (n : Int) := by omega
  clear hc hl hp hq w5
  go_enter Tryd.func79, Tryd.ntmps79
  go_upto_region 1 with (fail)
  go_quiet (fail)
  go_wp2_with fail
  go_ret
  exact ⟨rfl, below_drewN (by go_grown) _⟩
end Go.Proofs.YtjgncofhobhjdaaDoor
/- Divide: bytes are divided into descriptors. -/
namespace Go.Proofs.YtjgncofhobhjdaaDoor
open Go.RowKit
attribute [local go_sem ↓] Go.wp_at_zero Go.wp_at_succ

theorem Sl.drop {α : Type} {t : Ty α} {w : World} {F : Nat → Prop} {b off n k : Nat} {xs : List α} (h : Sl t w F (some ⟨b, off, none⟩) n xs) : Sl t w F (some ⟨b, off + k * t.size, none⟩) (n - k) (xs.drop k) :=
  ⟨by rw [List.length_drop, h.1], fun i x hx => by
    rw [List.getElem?_drop] at hx
    obtain ⟨b', off', cs, e, hb, hr, hc⟩ := h.2 _ x hx
    injection e with e
    injection e with e1 e2 _
    subst e1 e2
    exact ⟨b, off + k * t.size, cs, rfl, hb, hr, by rw [show off + k * t.size + i * t.size = off + (k + i) * t.size by rw [Nat.add_mul, Nat.add_assoc]]; exact hc⟩⟩
theorem Sl.take {α : Type} {t : Ty α} {w : World} {F : Nat → Prop} {A : Option Addr} {n k : Nat} {xs : List α} (h : Sl t w F A n xs) (hk : k ≤ n) : Sl t w F A k (xs.take k) :=
  ⟨by rw [List.length_take, h.1]; omega, fun i x hx => h.2 i x (by rw [List.getElem?_take] at hx; split at hx; exact hx; cases hx)⟩
theorem Sl.empty {α : Type} {t : Ty α} {w : World} {F : Nat → Prop} {A : Option Addr} {n : Nat} {xs : List α} (h : Sl t w F A n xs) (h0 : n = 0) (B : Option Addr) : Sl t w F B n xs := by
  subst h0
  rw [List.eq_nil_of_length_eq_zero h.1]
  exact Sl.nil _ _ _ _
/-- what lies behind the first k elements (of one cell each) -/
theorem tail_run (t e : TypeId) (hel : Tryd.prog.elem t = e) (hu : Tryd.prog.underlying t = some (.slice e)) (hz : ∀ w, (Go.sizeOf e).run Tryd.prog w = .ok 1 w) (b off n c k : Nat) (hk : k ≤ n) (hc : n ≤ c) : ∃ A, (∀ W, (Instr.slice t (.slice (some ⟨b, off, none⟩) n c) (some (.int .i64 (k : Int))) none none).run Tryd.prog W = .ok (.slice A (n - k) (c - k)) W) ∧
    (∀ W, (Instr.sliceAt t (.slice (some ⟨b, off, none⟩) n c) (some (.int .i64 (k : Int))) none none).run Tryd.prog W = .ok (.slice A (n - k) (c - k)) W) ∧
    (A = some ⟨b, off + k, none⟩ ∨ n = k) := by
  have hs : ∀ W, (Instr.slice t (.slice (some ⟨b, off, none⟩) n c) (some (.int .i64 (k : Int))) none none).run Tryd.prog W = .ok (.slice (if k = c then some ⟨b, off, none⟩ else some ⟨b, off + k, none⟩) (n - k) (c - k)) W := fun W => by
    rw [run_slice_l (w := W) t _ n c (by rw [hel]; exact hu) .i64 k (by omega) (by omega), hel, hz]
    by_cases hkc : k = c
    · simp [sliced, hkc]
    · simp [sliced, hkc, Ne.symm hkc, Addr.add_mid]
  refine ⟨if k = c then some ⟨b, off, none⟩ else some ⟨b, off + k, none⟩, hs, fun W => ?_, ?_⟩
  · rw [run_sliceAt_slice (w := W) t _ _ _ _ (by rw [hel]; exact hu), hs]
  · by_cases hkc : k = c
    · exact .inr (by omega)
    · rw [if_neg hkc]; exact .inl rfl
/-- the first k elements -/
theorem head_run (t e : TypeId) (hel : Tryd.prog.elem t = e) (hu : Tryd.prog.underlying t = some (.slice e)) (hz : ∀ w, (Go.sizeOf e).run Tryd.prog w = .ok 1 w) (b off n c k : Nat) (hk : k ≤ c) : (∀ W, (Instr.slice t (.slice (some ⟨b, off, none⟩) n c) none (some (.int .i64 (k : Int))) none).run Tryd.prog W = .ok (.slice (some ⟨b, off, none⟩) k c) W) ∧
    (∀ W, (Instr.sliceAt t (.slice (some ⟨b, off, none⟩) n c) none (some (.int .i64 (k : Int))) none).run Tryd.prog W = .ok (.slice (some ⟨b, off, none⟩) k c) W) := by
  have hs : ∀ W, (Instr.slice t (.slice (some ⟨b, off, none⟩) n c) none (some (.int .i64 (k : Int))) none).run Tryd.prog W = .ok (.slice (some ⟨b, off, none⟩) k c) W := fun W => by
    rw [run_slice_h (w := W) t _ n c (by rw [hel]; exact hu) .i64 k (by omega) (by omega), hel, hz]
    by_cases hkc : c = 0
    · simp [sliced, hkc]
    · simp [sliced, hkc, Addr.add]
  exact ⟨hs, fun W => by rw [run_sliceAt_slice (w := W) t _ _ _ _ (by rw [hel]; exact hu), hs]⟩
def dv (b : List Int) : Option (List (List Int)) := divS (b.length + 1) b
theorem div_fuel : ∀ (n m : Nat) (b : List Int), b.length < n → b.length < m → divS n b = divS m b
  | 0, _, _, h, _ => absurd h (Nat.not_lt_zero _)
  | _, 0, _, _, h => absurd h (Nat.not_lt_zero _)
  | n + 1, m + 1, [], _, _ => rfl
  | n + 1, m + 1, x :: r, h1, h2 => by
    show (if x < 2 ∨ ((x :: r).length : Int) < x then none else (divS n ((x :: r).drop x.toNat)).map fun l => (x :: r).take x.toNat :: l) = (if x < 2 ∨ ((x :: r).length : Int) < x then none else (divS m ((x :: r).drop x.toNat)).map fun l => (x :: r).take x.toNat :: l)
    by_cases hc : x < 2 ∨ ((x :: r).length : Int) < x
    · rw [if_pos hc, if_pos hc]
    · rw [if_neg hc, if_neg hc, div_fuel n m _ (by rw [List.length_drop]; simp at h1 ⊢; omega) (by rw [List.length_drop]; simp at h2 ⊢; omega)]
theorem dv_bad {b : List Int} (hb : 0 < b.length) (h : byteAt b 0 < 2 ∨ (b.length : Int) < byteAt b 0) : dv b = none := by
  cases b with
  | nil => simp at hb
  | cons x r =>
    have h' : x < 2 ∨ ((x :: r).length : Int) < x := h
    show (if x < 2 ∨ ((x :: r).length : Int) < x then none else _) = none
    rw [if_pos h']
theorem dv_step {b : List Int} {k : Nat} (hb : 0 < b.length) (hk : byteAt b 0 = (k : Int)) (h2 : 2 ≤ k) (h3 : k ≤ b.length) : dv b = (dv (b.drop k)).map fun l => b.take k :: l := by
  cases b with
  | nil => simp at hb
  | cons x r =>
    have hx : x = (k : Int) := hk
    subst hx
    show (if (k : Int) < 2 ∨ (((k : Int) :: r).length : Int) < k then none else (divS ((k : Int) :: r).length (((k : Int) :: r).drop (k : Int).toNat)).map fun l => ((k : Int) :: r).take (k : Int).toNat :: l) = _
    rw [if_neg (by omega), Int.toNat_natCast]
    unfold dv
    rw [div_fuel _ ((((k : Int) :: r).drop k).length + 1) _ (by rw [List.length_drop]; omega) (by omega)]
theorem info34 : (Tryd.prog.info? 34).map (fun i => (i.zero, i.size, i.bytes)) = some (some (.slice none 0 0), 1, 24) := by kernel_rfl
set_option maxRecDepth 100000 in
set_option maxHeartbeats 4000000 in
theorem divide_loop (A : Option Addr) (n c : Nat) (bs : List Int) (w : World) (hnc : n ≤ c) (hc : c ≤ maxLen) (hl : Sl u8T w (low w.heap.size) A n bs) (hn : n ≤ 4096) :
    Calls Tryd.prog 32 #[.slice A n c] w fun e w' => ((dv bs = none ∧ e = .returned (.tuple #[.slice none 0 0, .int .i64 4])) ∨ ∃ l A' k, dv bs = some l ∧ e = .returned (.tuple #[.slice A' k k, .int .i64 0]) ∧ Sl u8T.slice w' (fun b => w.heap.size ≤ b ∧ b < w'.heap.size) A' k l) ∧ Kept w w' := by
  obtain ⟨i5, hi5, hz0, hz1, hz2⟩ := info_parts info5
  obtain ⟨i6, hi6, hy0, hy1, hy2⟩ := info_parts info34
  have hlim : decide (4096 < (n : Int)) = false := decide_eq_false (by omega)
  have hbn := hl.1
  unfold maxLen at hc
  go_enter Tryd.func32, Tryd.ntmps32
  go_wp2_with fail
  go_loopg [0, 4] n (fun g s0 s4 wr => ∃ A m c rest v k l, s0 = .slice A m c ∧ m = g ∧ m ≤ c ∧ c ≤ maxLen ∧ Sl u8T wr (low w.heap.size) A m rest ∧ s4 = v ∧ Own (u8T.slice.on fun b => w.heap.size ≤ b) 34 w.heap.size wr v k l ∧ k + m ≤ 4096 ∧ dv bs = (dv rest).map (fun x => l ++ x) ∧ Kept w wr)
  case atStart => exact ⟨A, n, c, bs, .slice none 0 0, 0, [], rfl, rfl, hnc, hc, hl, rfl, Own.nil _ _ _ _, by omega, by cases dv bs <;> rfl, Below.refl _ _⟩
  case round =>
    obtain ⟨A, m, c, rest, v, k, l, rfl, hm, hmc, hcm, hr0, rfl, hown, hkm, hdv, hk⟩ := hrel
    have hr := hr0.more hk.size
    have Hr0 := hide hr0
    clear hr0
    have Hdv := hide hdv
    have Hm := hide hm
    have hrl := hr.1
    have hz := hk.size
    obtain ⟨A4, c4, rfl, ho1, ho2⟩ := hown.isSlice
    unfold maxLen at hcm ho2
    clear hdv hm hbn
    by_cases hpos : 0 < m
    · obtain ⟨b, off, rfl, hb, hcl⟩ := sl_bytes hr hpos
      have hu := sl_byte8 hr 0
      obtain ⟨z, hzz⟩ : ∃ z, byteAt rest 0 = z := ⟨_, rfl⟩
      have x0 := hcl 0 hpos
      rw [hzz] at hu x0
      rw [Nat.add_zero] at x0
      obtain ⟨u0, u1⟩ := hu
      obtain ⟨K, hK⟩ : ∃ K : Nat, z = (K : Int) := ⟨z.toNat, by omega⟩
      subst hK
      have wK : IntKind.i64.wrap (K : Int) = (K : Int) := by rw [IntKind.wrap_i64]; omega
      have hp : decide (0 < (m : Int)) = true := decide_eq_true (by omega)
      have Hzz := hide hzz
      clear hcl hzz
      by_cases h2 : K < 2
      · have d1 : decide ((K : Int) < 2) = true := decide_eq_true (by omega)
        have hd : dv bs = none := by rw [Hdv.out, dv_bad (by omega) (.inl (by rw [Hzz.out]; omega))]; rfl
        go_wp2_with fail
        refine bodyPost_ret (v := .tuple #[.slice none 0 0, .int .i64 4]) (by simp [results, Tryd.results32, go_sem]) rfl ⟨.inl ⟨hd, rfl⟩, hk⟩
      · have d1 : decide ((K : Int) < 2) = false := decide_eq_false (by omega)
        by_cases h3 : m < K
        · have d2 : decide ((m : Int) < (K : Int)) = true := decide_eq_true (by omega)
          have hd : dv bs = none := by rw [Hdv.out, dv_bad (by omega) (.inr (by rw [Hzz.out]; omega))]; rfl
          go_wp2_with fail
          refine bodyPost_ret (v := .tuple #[.slice none 0 0, .int .i64 4]) (by simp [results, Tryd.results32, go_sem]) rfl ⟨.inl ⟨hd, rfl⟩, hk⟩
        · have d2 : decide ((m : Int) < (K : Int)) = false := decide_eq_false (by omega)
          have hst := dv_step (b := rest) (k := K) (by omega) Hzz.out (by omega) (by omega)
          have Hst := hide hst
          obtain ⟨s1, s2⟩ := head_run 34 5 (by kernel_rfl) Tryd.underlying34 Tryd.sizeOf5 b off m c K (by omega)
          obtain ⟨A', s3, s4, hA'⟩ := tail_run 34 5 (by kernel_rfl) Tryd.underlying34 Tryd.sizeOf5 b off m c K (by omega) hmc
          have hA := hide hA'
          have htk := hr.take (k := K) (by omega)
          have hlk : (rest.take K).length = K := htk.1
          clear hst hA'
          go_wp2_with (first
            | (at_builtin; refine wpList_append_sl (T := u8T) rfl (.const (.slice none 0 0)) (.tmp 27) 34 rfl wr.heap.size 5 i5 _ 1 Tryd.underlying34 hi5 hz0 hz1 hz2 rfl (by decide) (.slice none 0 0) 0 [] (by rfl) (Own.nil _ _ _ _) (some ⟨b, off, none⟩) K c (rest.take K) (by rfl) (htk.keep (fun g hg => ⟨hg, fun e => by cases e⟩) (fun _ _ _ => rfl)) (by_one8 _ _) (by unfold maxLen; omega) (by omega) (Nat.le_refl _) ?_; intro v7 w7 hown7 hg7 hb7 hat7; rw [Nat.zero_add, List.nil_append] at hown7; obtain ⟨A7, c7, hv7, h71, h72⟩ := hown7.isSlice; subst hv7)
            | (go_at_call 62; refine (clipB_any A7 K c7 h71 h72 _).mono ?_; rintro e w8 ⟨rfl, rfl⟩)
            | (at_builtin; refine wpList_append_el (T := u8T.slice.on fun b => w.heap.size ≤ b) rfl (.tmp 24) (.tmp 30) 85 rfl w.heap.size 34 i6 _ 24 Tryd.underlying85 hi6 hy0 hy1 hy2 rfl (by exact Nat.one_pos) _ k l (by rfl) ((hown.kept hb7).alloc _) w7.heap.size _ _ (rest.take K) (by rfl) (heap_at _ rfl) (by exact ⟨A7, K, by rw [hlk], by omega, by unfold maxLen; omega, by rw [hlk]; exact (hown7.sl_of (fun g => (g < w7.heap.size ∧ (Value.slice A4 k c4).ownBlock ≠ some g) ∧ w.heap.size ≤ g) (fun g h1 h2 => ⟨⟨h2, fun e => absurd (hown.lt e).2 (by omega)⟩, by omega⟩) (fun _ _ hr => hr)).keep (fun g hg => ⟨⟨Nat.lt_of_lt_of_le hg.1.1 (by simp), hg.1.2⟩, hg.2⟩) (fun g o hg => World.cell?_alloc_lt _ _ _ hg.1.1)⟩) (by simp [Value.oneCell']) (by unfold maxLen; omega) (by omega) (by have := hb7.size; simp; omega) ?_; intro g cap w9 hown9 hg9 hb9 hat9 hlt9))
          have hbw : Below w.heap.size wr w9 := ((hb7.mono hz).trans ((Below.refl _ _).alloc (Nat.le_trans hz hb7.size) _)).trans hb9
          go_roundg (m - K)
          case measure => have := Hm.out; omega
          case rel =>
            refine ⟨A', m - K, c - K, rest.drop K, _, k + 1, l ++ [rest.take K], rfl, rfl, by omega, by unfold maxLen; omega, ?_, rfl, hown9, by omega, ?_, hk.trans hbw⟩
            · have hd : Sl u8T w9 (low w.heap.size) (some ⟨b, off + K, none⟩) (m - K) (rest.drop K) := by
                have := (Hr0.out.drop (k := K)).below hbw
                rwa [show K * u8T.size = K from Nat.mul_one K] at this
              rcases hA.out with e | e
              · rw [e]; exact hd
              · exact hd.empty (by omega) _
            · rw [Hdv.out, Hst.out, Option.map_map]
              congr 1
              funext x
              simp
    · have hp : decide (0 < (m : Int)) = false := decide_eq_false (by omega)
      have hm0 : m = 0 := by omega
      have hrest : rest = [] := List.eq_nil_of_length_eq_zero (by omega)
      have hd : dv bs = some l := by
        rw [Hdv.out, hrest]
        show some (l ++ []) = some l
        rw [List.append_nil]
      clear hm0 hrest
      go_wp2_with (go_at_call 76; refine (clipBB_any A4 k c4 ho1 ho2 _).mono ?_; rintro e w8 ⟨rfl, rfl⟩)
      refine bodyPost_ret (v := .tuple #[.slice A4 k k, .int .i64 0]) (by simp [results, Tryd.results32, go_sem]) rfl ⟨.inr ⟨l, A4, k, hd, rfl, hown.allnew⟩, hk⟩
theorem divide_dv {b : List Int} (h : b.length ≤ 4096) : divide b = dv b := by unfold divide dv; rw [if_neg (by omega)]
theorem divide_any (A : Option Addr) (n c : Nat) (bs : List Int) (w : World) (hnc : n ≤ c) (hc : c ≤ maxLen) (hl : Sl u8T w (low w.heap.size) A n bs) :
    Calls Tryd.prog 32 #[.slice A n c] w fun e w' => ((divide bs = none ∧ ∃ E : Int, E ≠ 0 ∧ e = .returned (.tuple #[.slice none 0 0, .int .i64 E])) ∨ ∃ l A' k, divide bs = some l ∧ e = .returned (.tuple #[.slice A' k k, .int .i64 0]) ∧ Sl u8T.slice w' (fun b => w.heap.size ≤ b ∧ b < w'.heap.size) A' k l) ∧ Kept w w' := by
  by_cases hn : n ≤ 4096
  · refine (divide_loop A n c bs w hnc hc hl hn).mono fun e w' ⟨h, hk⟩ => ⟨?_, hk⟩
    rw [divide_dv (by rw [hl.1]; exact hn)]
    rcases h with ⟨h1, h2⟩ | h
    · exact .inl ⟨h1, 4, by decide, h2⟩
    · exact .inr h
  · have hd : divide bs = none := by unfold divide; rw [if_pos (by rw [hl.1]; omega)]
    have hlim : decide (4096 < (n : Int)) = true := decide_eq_true (by omega)
    go_enter Tryd.func32, Tryd.ntmps32
    go_wp2_with fail
    refine bodyPost_ret (v := .tuple #[.slice none 0 0, .int .i64 3]) (by simp [results, Tryd.results32, go_sem]) rfl ⟨.inl ⟨hd, 3, by decide, rfl⟩, by go_grown⟩
end Go.Proofs.YtjgncofhobhjdaaDoor
/- apart: the two maps of addresses. -/
namespace Go.Proofs.YtjgncofhobhjdaaDoor
open Go.RowKit Go.Maps

theorem keyed8 : Keyed Tryd.prog 5 := int_keyed Tryd.underlying5
theorem key8 {z : Int} (h : u8k z) : keyOf Tryd.prog 5 (.int .u8 z) = some (.int .u8 z) := by
  unfold keyOf mapKey
  unfold u8k at h
  have h1 : IntKind.u8.min = 0 := rfl
  have h2 : IntKind.u8.max = 255 := rfl
  simp [Tryd.underlying5, Lit.wf, h1, h2]
  omega
/-- what a map of owners says at a key -/
def ownerF (o : Int → Option Nat) : Lit → Option Value
  | .int .u8 z => (o z).map fun i => .int .i64 (i : Int)
  | _ => none
/-- what a map of seen addresses says at a key -/
def seenF (s : Int → Bool) : Lit → Option Value
  | .int .u8 z => if s z then some (.bool true) else none
  | _ => none
theorem owner_put (o : Int → Option Nat) (z : Int) (i : Nat) : putF (ownerF o) (.int .u8 z) (.int .i64 (i : Int)) = ownerF (fun a => if a = z then some i else o a) := by
  funext kl
  unfold putF
  cases kl with
  | int k n =>
    cases k <;> simp [Lit.sameKey, ownerF]
    split <;> rfl
  | _ => simp [Lit.sameKey, ownerF]
theorem seen_put (s : Int → Bool) (z : Int) : putF (seenF s) (.int .u8 z) (.bool true) = seenF (fun a => if a = z then true else s a) := by
  funext kl
  unfold putF
  cases kl with
  | int k n =>
    cases k <;> simp [Lit.sameKey, seenF]
    by_cases h : n = z <;> simp [h]
  | _ => simp [Lit.sameKey, seenF]
end Go.Proofs.YtjgncofhobhjdaaDoor
