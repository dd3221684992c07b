/- What Check answers to the rows with one field changed. Plain: nothing of a walk. -/
import Derived.Test.YtfoeihbajichpaaDoorKb
import Derived.Test.YtfoeihbajichpaaDoorKc
set_option linter.unusedVariables false
set_option linter.unusedSimpArgs false
set_option linter.unusedSectionVars false
namespace Go.Proofs.YtfoeihbajichpaaDoor
open Go.RowKit Go.Lib

theorem ck_ok {t c v x l n : Int} {i : Bool} {k : FK} (hk : t / 32 % 4 = 0) (hr : rowF c = some (i, n, k)) (h1 : i = decide (128 ≤ t)) (h2 : 0 ≤ n → l = n) (h3 : k.fits (t % 32) v x = true) : checkC t c v x l = 0 := by
  unfold checkC
  rw [if_neg (by omega), hr]
  dsimp only
  rw [if_neg]
  rintro (h | ⟨h, h'⟩ | h)
  · exact h h1
  · exact h' (h2 h)
  · rw [h3] at h; cases h
theorem ck_way {t c v x l n : Int} {i : Bool} {k : FK} (hk : t / 32 % 4 = 0) (hr : rowF c = some (i, n, k)) (h1 : i ≠ decide (128 ≤ t)) : checkC t c v x l = 4 := by
  unfold checkC
  rw [if_neg (by omega), hr]
  dsimp only
  rw [if_pos (.inl h1)]
theorem ck_len {t c v x l n : Int} {i : Bool} {k : FK} (hk : t / 32 % 4 = 0) (hr : rowF c = some (i, n, k)) (h1 : 0 ≤ n) (h2 : l ≠ n) : checkC t c v x l = 4 := by
  unfold checkC
  rw [if_neg (by omega), hr]
  dsimp only
  rw [if_pos (.inr (.inl ⟨h1, h2⟩))]
theorem ck_fit {t c v x l n : Int} {i : Bool} {k : FK} (hk : t / 32 % 4 = 0) (hr : rowF c = some (i, n, k)) (h3 : k.fits (t % 32) v x = false) : checkC t c v x l = 4 := by
  unfold checkC
  rw [if_neg (by omega), hr]
  dsimp only
  rw [if_pos (.inr (.inr h3))]
theorem ck_kind {t c v x l : Int} (hk : t / 32 % 4 ≠ 0) : checkC t c v x l = 1 := by
  unfold checkC
  rw [if_pos hk]
def anyC (c : Int) : Bool := c == 6 || c == 7
theorem xor128 (t : Fin 131) : bits BinOp.xor IntKind.u8 ((t.val : Nat) : Int) 128 = if 128 ≤ t.val then ((t.val : Nat) : Int) - 128 else ((t.val : Nat) : Int) + 128 := by revert t; decide +kernel
theorem or4096 {a : Int} (h0 : 0 ≤ a) (h1 : a < 65536) : 4096 ≤ bits BinOp.or IntKind.u16 a 4096 ∧ bits BinOp.or IntKind.u16 a 4096 < 65536 := by
  have e : bits BinOp.or IntKind.u16 a 4096 = ((BitVec.ofInt 16 a ||| BitVec.ofInt 16 4096).toNat : Int) := by
    show IntKind.u16.wrap ((BitVec.ofInt 16 a ||| BitVec.ofInt 16 4096).toNat : Int) = _
    rw [IntKind.wrap_u16]
    have := (BitVec.ofInt 16 a ||| BitVec.ofInt 16 4096).isLt
    omega
  rw [e]
  have h2 := (BitVec.ofInt 16 a ||| BitVec.ofInt 16 4096).isLt
  have h3 : 4096 ≤ (BitVec.ofInt 16 a ||| BitVec.ofInt 16 4096).toNat := by
    rw [BitVec.toNat_or]
    exact Nat.right_le_or
  omega
theorem ep_big {x : Int} (h : 4096 ≤ x) : epB x = false := by
  unfold epB
  have h1 : ¬ x < 16 := by omega
  have h3 : ¬ x < 144 := by omega
  simp [h1, h3]
theorem row_fine {t c v x l : Int} (h : RowOk t c v x l) (v0 : 0 ≤ v) (x0 : 0 ≤ x) (l0 : 0 ≤ l) : checkC t c v x l = 0 := by
  rcases h with ⟨rfl, rfl, rfl, rfl, rfl⟩ | ⟨rfl, rfl, rfl, hx, rfl⟩ | ⟨rfl, rfl, rfl, hx, rfl⟩ | ⟨rfl, rfl | rfl, rfl, rfl, rfl⟩ | ⟨rfl, rfl | rfl, rfl, hx, rfl⟩ | ⟨rfl, rfl, hv, rfl, rfl⟩ | ⟨rfl, rfl⟩ | ⟨rfl, rfl⟩ | ⟨rfl, rfl⟩ | ⟨rfl, rfl, rfl, rfl, rfl⟩ | ⟨rfl, rfl, hv, rfl, rfl⟩ | ⟨rfl, rfl, rfl, hx, rfl⟩ | ⟨rfl, rfl, hv, hx, rfl⟩ | ⟨rfl, rfl, rfl, hx, rfl⟩
  · exact ck_ok (by decide) rfl (by decide) (fun _ => rfl) (by simp [FK.fits])
  · exact ck_ok (by decide) rfl (by decide) (fun _ => rfl) (by simp [FK.fits, hx])
  · exact ck_ok (by decide) rfl (by decide) (fun _ => rfl) (by simp [FK.fits, hx])
  · exact ck_ok (by decide) rfl (by decide) (fun _ => rfl) (by simp [FK.fits])
  · exact ck_ok (by decide) rfl (by decide) (fun _ => rfl) (by simp [FK.fits])
  · exact ck_ok (by decide) rfl (by decide) (fun _ => rfl) (by simp [FK.fits, hx])
  · exact ck_ok (by decide) rfl (by decide) (fun _ => rfl) (by simp [FK.fits, hx])
  · exact ck_ok (by decide) rfl (by decide) (fun _ => rfl) (by simp [FK.fits]; omega)
  · exact ck_ok (by decide) rfl (by decide) (fun _ => absurd ‹0 ≤ (-1 : Int)› (by decide)) (by simp [FK.fits])
  · exact ck_ok (by decide) rfl (by decide) (fun _ => absurd ‹0 ≤ (-1 : Int)› (by decide)) (by simp [FK.fits])
  · exact ck_ok (by decide) rfl (by decide) (fun _ => absurd ‹0 ≤ (-1 : Int)› (by decide)) (by simp [FK.fits])
  · exact ck_ok (by decide) rfl (by decide) (fun _ => rfl) (by simp [FK.fits])
  · exact ck_ok (by decide) rfl (by decide) (fun _ => rfl) (by simp [FK.fits]; omega)
  · exact ck_ok (by decide) rfl (by decide) (fun _ => rfl) (by simp [FK.fits, hx])
  · exact ck_ok (by decide) rfl (by decide) (fun _ => rfl) (by simp [FK.fits, hx]; omega)
  · exact ck_ok (by decide) rfl (by decide) (fun _ => rfl) (by simp [FK.fits, hx])
theorem row_way {t c v x l : Int} (h : RowOk t c v x l) (v0 : 0 ≤ v) (x0 : 0 ≤ x) (l0 : 0 ≤ l) : checkC (bits BinOp.xor IntKind.u8 t 128) c v x l = 4 := by
  rcases h with ⟨rfl, rfl, rfl, rfl, rfl⟩ | ⟨rfl, rfl, rfl, hx, rfl⟩ | ⟨rfl, rfl, rfl, hx, rfl⟩ | ⟨rfl, rfl | rfl, rfl, rfl, rfl⟩ | ⟨rfl, rfl | rfl, rfl, hx, rfl⟩ | ⟨rfl, rfl, hv, rfl, rfl⟩ | ⟨rfl, rfl⟩ | ⟨rfl, rfl⟩ | ⟨rfl, rfl⟩ | ⟨rfl, rfl, rfl, rfl, rfl⟩ | ⟨rfl, rfl, hv, rfl, rfl⟩ | ⟨rfl, rfl, rfl, hx, rfl⟩ | ⟨rfl, rfl, hv, hx, rfl⟩ | ⟨rfl, rfl, rfl, hx, rfl⟩
  · rw [show bits BinOp.xor IntKind.u8 128 128 = 0 by decide +kernel]; exact ck_way (by decide) rfl (by decide)
  · rw [show bits BinOp.xor IntKind.u8 129 128 = 1 by decide +kernel]; exact ck_way (by decide) rfl (by decide)
  · rw [show bits BinOp.xor IntKind.u8 130 128 = 2 by decide +kernel]; exact ck_way (by decide) rfl (by decide)
  · rw [show bits BinOp.xor IntKind.u8 0 128 = 128 by decide +kernel]; exact ck_way (by decide) rfl (by decide)
  · rw [show bits BinOp.xor IntKind.u8 0 128 = 128 by decide +kernel]; exact ck_way (by decide) rfl (by decide)
  · rw [show bits BinOp.xor IntKind.u8 2 128 = 130 by decide +kernel]; exact ck_way (by decide) rfl (by decide)
  · rw [show bits BinOp.xor IntKind.u8 2 128 = 130 by decide +kernel]; exact ck_way (by decide) rfl (by decide)
  · rw [show bits BinOp.xor IntKind.u8 0 128 = 128 by decide +kernel]; exact ck_way (by decide) rfl (by decide)
  · rw [show bits BinOp.xor IntKind.u8 128 128 = 0 by decide +kernel]; exact ck_way (by decide) rfl (by decide)
  · rw [show bits BinOp.xor IntKind.u8 129 128 = 1 by decide +kernel]; exact ck_way (by decide) rfl (by decide)
  · rw [show bits BinOp.xor IntKind.u8 0 128 = 128 by decide +kernel]; exact ck_way (by decide) rfl (by decide)
  · rw [show bits BinOp.xor IntKind.u8 128 128 = 0 by decide +kernel]; exact ck_way (by decide) rfl (by decide)
  · rw [show bits BinOp.xor IntKind.u8 0 128 = 128 by decide +kernel]; exact ck_way (by decide) rfl (by decide)
  · rw [show bits BinOp.xor IntKind.u8 129 128 = 1 by decide +kernel]; exact ck_way (by decide) rfl (by decide)
  · rw [show bits BinOp.xor IntKind.u8 1 128 = 129 by decide +kernel]; exact ck_way (by decide) rfl (by decide)
  · rw [show bits BinOp.xor IntKind.u8 130 128 = 2 by decide +kernel]; exact ck_way (by decide) rfl (by decide)
theorem kf_128 : ∀ j : Fin 3, bits BinOp.xor IntKind.u8 128 (32 * (1 + ((j.val : Nat) : Int))) / 32 % 4 ≠ 0 := by decide +kernel
theorem kind_128 {z : Int} (z0 : 0 ≤ z) : bits BinOp.xor IntKind.u8 128 (32 * (1 + z / 6 % 3)) / 32 % 4 ≠ 0 := by
  have h : z / 6 % 3 = (((z / 6 % 3).toNat : Nat) : Int) := by omega
  rw [h]
  exact kf_128 ⟨(z / 6 % 3).toNat, by omega⟩
theorem kf_129 : ∀ j : Fin 3, bits BinOp.xor IntKind.u8 129 (32 * (1 + ((j.val : Nat) : Int))) / 32 % 4 ≠ 0 := by decide +kernel
theorem kind_129 {z : Int} (z0 : 0 ≤ z) : bits BinOp.xor IntKind.u8 129 (32 * (1 + z / 6 % 3)) / 32 % 4 ≠ 0 := by
  have h : z / 6 % 3 = (((z / 6 % 3).toNat : Nat) : Int) := by omega
  rw [h]
  exact kf_129 ⟨(z / 6 % 3).toNat, by omega⟩
theorem kf_130 : ∀ j : Fin 3, bits BinOp.xor IntKind.u8 130 (32 * (1 + ((j.val : Nat) : Int))) / 32 % 4 ≠ 0 := by decide +kernel
theorem kind_130 {z : Int} (z0 : 0 ≤ z) : bits BinOp.xor IntKind.u8 130 (32 * (1 + z / 6 % 3)) / 32 % 4 ≠ 0 := by
  have h : z / 6 % 3 = (((z / 6 % 3).toNat : Nat) : Int) := by omega
  rw [h]
  exact kf_130 ⟨(z / 6 % 3).toNat, by omega⟩
theorem kf_0 : ∀ j : Fin 3, bits BinOp.xor IntKind.u8 0 (32 * (1 + ((j.val : Nat) : Int))) / 32 % 4 ≠ 0 := by decide +kernel
theorem kind_0 {z : Int} (z0 : 0 ≤ z) : bits BinOp.xor IntKind.u8 0 (32 * (1 + z / 6 % 3)) / 32 % 4 ≠ 0 := by
  have h : z / 6 % 3 = (((z / 6 % 3).toNat : Nat) : Int) := by omega
  rw [h]
  exact kf_0 ⟨(z / 6 % 3).toNat, by omega⟩
theorem kf_1 : ∀ j : Fin 3, bits BinOp.xor IntKind.u8 1 (32 * (1 + ((j.val : Nat) : Int))) / 32 % 4 ≠ 0 := by decide +kernel
theorem kind_1 {z : Int} (z0 : 0 ≤ z) : bits BinOp.xor IntKind.u8 1 (32 * (1 + z / 6 % 3)) / 32 % 4 ≠ 0 := by
  have h : z / 6 % 3 = (((z / 6 % 3).toNat : Nat) : Int) := by omega
  rw [h]
  exact kf_1 ⟨(z / 6 % 3).toNat, by omega⟩
theorem kf_2 : ∀ j : Fin 3, bits BinOp.xor IntKind.u8 2 (32 * (1 + ((j.val : Nat) : Int))) / 32 % 4 ≠ 0 := by decide +kernel
theorem kind_2 {z : Int} (z0 : 0 ≤ z) : bits BinOp.xor IntKind.u8 2 (32 * (1 + z / 6 % 3)) / 32 % 4 ≠ 0 := by
  have h : z / 6 % 3 = (((z / 6 % 3).toNat : Nat) : Int) := by omega
  rw [h]
  exact kf_2 ⟨(z / 6 % 3).toNat, by omega⟩
theorem row_kind {t c v x l : Int} (h : RowOk t c v x l) (v0 : 0 ≤ v) (x0 : 0 ≤ x) (l0 : 0 ≤ l) {z : Int} (z0 : 0 ≤ z) : checkC (bits BinOp.xor IntKind.u8 t (32 * (1 + z / 6 % 3))) c v x l = 1 := by
  rcases h with ⟨rfl, rfl, rfl, rfl, rfl⟩ | ⟨rfl, rfl, rfl, hx, rfl⟩ | ⟨rfl, rfl, rfl, hx, rfl⟩ | ⟨rfl, rfl | rfl, rfl, rfl, rfl⟩ | ⟨rfl, rfl | rfl, rfl, hx, rfl⟩ | ⟨rfl, rfl, hv, rfl, rfl⟩ | ⟨rfl, rfl⟩ | ⟨rfl, rfl⟩ | ⟨rfl, rfl⟩ | ⟨rfl, rfl, rfl, rfl, rfl⟩ | ⟨rfl, rfl, hv, rfl, rfl⟩ | ⟨rfl, rfl, rfl, hx, rfl⟩ | ⟨rfl, rfl, hv, hx, rfl⟩ | ⟨rfl, rfl, rfl, hx, rfl⟩
  · exact ck_kind (kind_128 z0)
  · exact ck_kind (kind_129 z0)
  · exact ck_kind (kind_130 z0)
  · exact ck_kind (kind_0 z0)
  · exact ck_kind (kind_0 z0)
  · exact ck_kind (kind_2 z0)
  · exact ck_kind (kind_2 z0)
  · exact ck_kind (kind_0 z0)
  · exact ck_kind (kind_128 z0)
  · exact ck_kind (kind_129 z0)
  · exact ck_kind (kind_0 z0)
  · exact ck_kind (kind_128 z0)
  · exact ck_kind (kind_0 z0)
  · exact ck_kind (kind_129 z0)
  · exact ck_kind (kind_1 z0)
  · exact ck_kind (kind_130 z0)
theorem row_to {t c v x l : Int} (h : RowOk t c v x l) (v0 : 0 ≤ v) (x0 : 0 ≤ x) (l0 : 0 ≤ l) : checkC (t + 3) c v x l = 4 := by
  rcases h with ⟨rfl, rfl, rfl, rfl, rfl⟩ | ⟨rfl, rfl, rfl, hx, rfl⟩ | ⟨rfl, rfl, rfl, hx, rfl⟩ | ⟨rfl, rfl | rfl, rfl, rfl, rfl⟩ | ⟨rfl, rfl | rfl, rfl, hx, rfl⟩ | ⟨rfl, rfl, hv, rfl, rfl⟩ | ⟨rfl, rfl⟩ | ⟨rfl, rfl⟩ | ⟨rfl, rfl⟩ | ⟨rfl, rfl, rfl, rfl, rfl⟩ | ⟨rfl, rfl, hv, rfl, rfl⟩ | ⟨rfl, rfl, rfl, hx, rfl⟩ | ⟨rfl, rfl, hv, hx, rfl⟩ | ⟨rfl, rfl, rfl, hx, rfl⟩
  · exact ck_fit (by decide) rfl (by simp [FK.fits])
  · exact ck_fit (by decide) rfl (by simp [FK.fits])
  · exact ck_fit (by decide) rfl (by simp [FK.fits])
  · exact ck_fit (by decide) rfl (by simp [FK.fits])
  · exact ck_fit (by decide) rfl (by simp [FK.fits])
  · exact ck_fit (by decide) rfl (by simp [FK.fits])
  · exact ck_fit (by decide) rfl (by simp [FK.fits])
  · exact ck_fit (by decide) rfl (by simp [FK.fits])
  · exact ck_fit (by decide) rfl (by simp [FK.fits])
  · exact ck_fit (by decide) rfl (by simp [FK.fits])
  · exact ck_fit (by decide) rfl (by simp [FK.fits])
  · exact ck_fit (by decide) rfl (by simp [FK.fits])
  · exact ck_fit (by decide) rfl (by simp [FK.fits])
  · exact ck_fit (by decide) rfl (by simp [FK.fits])
  · exact ck_fit (by decide) rfl (by simp [FK.fits])
  · exact ck_fit (by decide) rfl (by simp [FK.fits])
theorem row_len {t c v x l : Int} (h : RowOk t c v x l) (v0 : 0 ≤ v) (x0 : 0 ≤ x) (l0 : 0 ≤ l) {z : Int} (z0 : 0 ≤ z) (z1 : z < 256) : checkC t c v x (IntKind.u16.wrap (l + (1 + z))) = if anyC c then 0 else 4 := by
  rcases h with ⟨rfl, rfl, rfl, rfl, rfl⟩ | ⟨rfl, rfl, rfl, hx, rfl⟩ | ⟨rfl, rfl, rfl, hx, rfl⟩ | ⟨rfl, rfl | rfl, rfl, rfl, rfl⟩ | ⟨rfl, rfl | rfl, rfl, hx, rfl⟩ | ⟨rfl, rfl, hv, rfl, rfl⟩ | ⟨rfl, rfl⟩ | ⟨rfl, rfl⟩ | ⟨rfl, rfl⟩ | ⟨rfl, rfl, rfl, rfl, rfl⟩ | ⟨rfl, rfl, hv, rfl, rfl⟩ | ⟨rfl, rfl, rfl, hx, rfl⟩ | ⟨rfl, rfl, hv, hx, rfl⟩ | ⟨rfl, rfl, rfl, hx, rfl⟩
  · exact ck_len (by decide) rfl (by decide) (by rw [IntKind.wrap_u16]; omega)
  · exact ck_len (by decide) rfl (by decide) (by rw [IntKind.wrap_u16]; omega)
  · exact ck_len (by decide) rfl (by decide) (by rw [IntKind.wrap_u16]; omega)
  · exact ck_len (by decide) rfl (by decide) (by rw [IntKind.wrap_u16]; omega)
  · exact ck_len (by decide) rfl (by decide) (by rw [IntKind.wrap_u16]; omega)
  · exact ck_len (by decide) rfl (by decide) (by rw [IntKind.wrap_u16]; omega)
  · exact ck_len (by decide) rfl (by decide) (by rw [IntKind.wrap_u16]; omega)
  · exact ck_len (by decide) rfl (by decide) (by rw [IntKind.wrap_u16]; omega)
  · exact ck_ok (by decide) rfl (by decide) (fun _ => absurd ‹0 ≤ (-1 : Int)› (by decide)) (by simp [FK.fits])
  · exact ck_ok (by decide) rfl (by decide) (fun _ => absurd ‹0 ≤ (-1 : Int)› (by decide)) (by simp [FK.fits])
  · exact ck_ok (by decide) rfl (by decide) (fun _ => absurd ‹0 ≤ (-1 : Int)› (by decide)) (by simp [FK.fits])
  · exact ck_len (by decide) rfl (by decide) (by rw [IntKind.wrap_u16]; omega)
  · exact ck_len (by decide) rfl (by decide) (by rw [IntKind.wrap_u16]; omega)
  · exact ck_len (by decide) rfl (by decide) (by rw [IntKind.wrap_u16]; omega)
  · exact ck_len (by decide) rfl (by decide) (by rw [IntKind.wrap_u16]; omega)
  · exact ck_len (by decide) rfl (by decide) (by rw [IntKind.wrap_u16]; omega)
theorem row_val {t c v x l : Int} (h : RowOk t c v x l) (v0 : 0 ≤ v) (x0 : 0 ≤ x) (l0 : 0 ≤ l) {V : Int} (hV : 4096 ≤ V) : checkC t c V x l = if anyC c then 0 else 4 := by
  have h0 : ¬ V = 0 := by omega
  have h1 : ¬ V = 1 := by omega
  have h2 : ¬ V ≤ 0 := by omega
  have h3 : ¬ V ≤ 127 := by omega
  have h4 : ¬ V ≤ 255 := by omega
  have h5 : ¬ V ≤ 15 := by omega
  rcases h with ⟨rfl, rfl, rfl, rfl, rfl⟩ | ⟨rfl, rfl, rfl, hx, rfl⟩ | ⟨rfl, rfl, rfl, hx, rfl⟩ | ⟨rfl, rfl | rfl, rfl, rfl, rfl⟩ | ⟨rfl, rfl | rfl, rfl, hx, rfl⟩ | ⟨rfl, rfl, hv, rfl, rfl⟩ | ⟨rfl, rfl⟩ | ⟨rfl, rfl⟩ | ⟨rfl, rfl⟩ | ⟨rfl, rfl, rfl, rfl, rfl⟩ | ⟨rfl, rfl, hv, rfl, rfl⟩ | ⟨rfl, rfl, rfl, hx, rfl⟩ | ⟨rfl, rfl, hv, hx, rfl⟩ | ⟨rfl, rfl, rfl, hx, rfl⟩
  · exact ck_fit (by decide) rfl (by simp [FK.fits, h0, h1, h2, h3, h4, h5])
  · exact ck_fit (by decide) rfl (by simp [FK.fits, h0, h1, h2, h3, h4, h5])
  · exact ck_fit (by decide) rfl (by simp [FK.fits, h0, h1, h2, h3, h4, h5])
  · exact ck_fit (by decide) rfl (by simp [FK.fits, h0, h1, h2, h3, h4, h5])
  · exact ck_fit (by decide) rfl (by simp [FK.fits, h0, h1, h2, h3, h4, h5])
  · exact ck_fit (by decide) rfl (by simp [FK.fits, h0, h1, h2, h3, h4, h5])
  · exact ck_fit (by decide) rfl (by simp [FK.fits, h0, h1, h2, h3, h4, h5])
  · exact ck_fit (by decide) rfl (by simp [FK.fits, h0, h1, h2, h3, h4, h5])
  · exact ck_ok (by decide) rfl (by decide) (fun _ => absurd ‹0 ≤ (-1 : Int)› (by decide)) (by simp [FK.fits])
  · exact ck_ok (by decide) rfl (by decide) (fun _ => absurd ‹0 ≤ (-1 : Int)› (by decide)) (by simp [FK.fits])
  · exact ck_ok (by decide) rfl (by decide) (fun _ => absurd ‹0 ≤ (-1 : Int)› (by decide)) (by simp [FK.fits])
  · exact ck_fit (by decide) rfl (by simp [FK.fits, h0, h1, h2, h3, h4, h5])
  · exact ck_fit (by decide) rfl (by simp [FK.fits, h0, h1, h2, h3, h4, h5])
  · exact ck_fit (by decide) rfl (by simp [FK.fits, h0, h1, h2, h3, h4, h5])
  · exact ck_fit (by decide) rfl (by simp [FK.fits, h0, h1, h2, h3, h4, h5])
  · exact ck_fit (by decide) rfl (by simp [FK.fits, h0, h1, h2, h3, h4, h5])
theorem row_idx {t c v x l : Int} (h : RowOk t c v x l) (v0 : 0 ≤ v) (x0 : 0 ≤ x) (l0 : 0 ≤ l) {X : Int} (hX : 4096 ≤ X) : checkC t c v X l = if anyC c then 0 else 4 := by
  have h0 : ¬ X = 0 := by omega
  have h1 : ¬ X < 16 := by omega
  have h2 := ep_big hX
  rcases h with ⟨rfl, rfl, rfl, rfl, rfl⟩ | ⟨rfl, rfl, rfl, hx, rfl⟩ | ⟨rfl, rfl, rfl, hx, rfl⟩ | ⟨rfl, rfl | rfl, rfl, rfl, rfl⟩ | ⟨rfl, rfl | rfl, rfl, hx, rfl⟩ | ⟨rfl, rfl, hv, rfl, rfl⟩ | ⟨rfl, rfl⟩ | ⟨rfl, rfl⟩ | ⟨rfl, rfl⟩ | ⟨rfl, rfl, rfl, rfl, rfl⟩ | ⟨rfl, rfl, hv, rfl, rfl⟩ | ⟨rfl, rfl, rfl, hx, rfl⟩ | ⟨rfl, rfl, hv, hx, rfl⟩ | ⟨rfl, rfl, rfl, hx, rfl⟩
  · exact ck_fit (by decide) rfl (by simp [FK.fits, h0, h1, h2])
  · exact ck_fit (by decide) rfl (by simp [FK.fits, h0, h1, h2])
  · exact ck_fit (by decide) rfl (by simp [FK.fits, h0, h1, h2])
  · exact ck_fit (by decide) rfl (by simp [FK.fits, h0, h1, h2])
  · exact ck_fit (by decide) rfl (by simp [FK.fits, h0, h1, h2])
  · exact ck_fit (by decide) rfl (by simp [FK.fits, h0, h1, h2])
  · exact ck_fit (by decide) rfl (by simp [FK.fits, h0, h1, h2])
  · exact ck_fit (by decide) rfl (by simp [FK.fits, h0, h1, h2])
  · exact ck_ok (by decide) rfl (by decide) (fun _ => absurd ‹0 ≤ (-1 : Int)› (by decide)) (by simp [FK.fits])
  · exact ck_ok (by decide) rfl (by decide) (fun _ => absurd ‹0 ≤ (-1 : Int)› (by decide)) (by simp [FK.fits])
  · exact ck_ok (by decide) rfl (by decide) (fun _ => absurd ‹0 ≤ (-1 : Int)› (by decide)) (by simp [FK.fits])
  · exact ck_fit (by decide) rfl (by simp [FK.fits, h0, h1, h2])
  · exact ck_fit (by decide) rfl (by simp [FK.fits, h0, h1, h2])
  · exact ck_fit (by decide) rfl (by simp [FK.fits, h0, h1, h2])
  · exact ck_fit (by decide) rfl (by simp [FK.fits, h0, h1, h2])
  · exact ck_fit (by decide) rfl (by simp [FK.fits, h0, h1, h2])
end Go.Proofs.YtfoeihbajichpaaDoor
