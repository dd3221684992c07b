/- Texts as lists of characters: their bytes, and back. No condition; nothing of the program. -/
import Derived.Lib.ValidLaws
namespace Go.Proofs.YtokijdgakphfiaaDoor
open Go.Lib

/-- a character -/
def okN (n : Nat) : Prop := n < 55296 ∨ (57344 ≤ n ∧ n ≤ 1114111)
/-- the bytes of a character, as numbers -/
def encN (n : Nat) : List Nat :=
  if n < 128 then [n] else if n < 2048 then [192 + n / 64, 128 + n % 64]
  else if n < 65536 then [224 + n / 4096, 128 + n / 64 % 64, 128 + n % 64]
  else [240 + n / 262144, 128 + n / 4096 % 64, 128 + n / 64 % 64, 128 + n % 64]
def encL (n : Nat) : List UInt8 := (encN n).map UInt8.ofNat
theorem encL_length (n : Nat) : (encL n).length = (encN n).length := by simp [encL]
theorem encN_pos (n : Nat) : 1 ≤ (encN n).length ∧ (encN n).length ≤ 4 := by
  unfold encN; repeat' split
  all_goals simp
theorem toNat_of {x : Nat} (h : x < 256) : (UInt8.ofNat x).toNat = x := by simp [UInt8.toNat_ofNat']; omega

theorem decode_enc {n : Nat} (h : okN n) (t : List UInt8) : decodeL (encL n ++ t) = (n, (encN n).length) := by
  rw [decodeL_N]
  unfold okN at h
  unfold encL encN
  by_cases h1 : n < 128
  · rw [if_pos h1]
    simp only [List.map_cons, List.map_nil, List.cons_append, List.nil_append, List.getD_cons_zero, List.length_cons, List.length_nil]
    rw [toNat_of (by omega)]
    unfold decodeN
    rw [if_pos h1]
  · rw [if_neg h1]
    by_cases h2 : n < 2048
    · rw [if_pos h2]
      simp only [List.map_cons, List.map_nil, List.cons_append, List.nil_append, List.getD_cons_zero, List.getD_cons_succ, List.length_cons, List.length_nil]
      rw [toNat_of (by omega), toNat_of (by omega)]
      unfold decodeN
      rw [if_neg (by omega), if_pos (by omega), if_pos (by omega)]
      congr 1
      omega
    · rw [if_neg h2]
      by_cases h3 : n < 65536
      · rw [if_pos h3]
        simp only [List.map_cons, List.map_nil, List.cons_append, List.nil_append, List.getD_cons_zero, List.getD_cons_succ, List.length_cons, List.length_nil]
        rw [toNat_of (by omega), toNat_of (by omega), toNat_of (by omega)]
        unfold decodeN
        rw [if_neg (by omega), if_neg (by omega), if_pos (by omega), if_pos (by omega)]
        congr 1
        omega
      · rw [if_neg h3]
        simp only [List.map_cons, List.map_nil, List.cons_append, List.nil_append, List.getD_cons_zero, List.getD_cons_succ, List.length_cons, List.length_nil]
        rw [toNat_of (by omega), toNat_of (by omega), toNat_of (by omega), toNat_of (by omega)]
        unfold decodeN
        rw [if_neg (by omega), if_neg (by omega), if_neg (by omega), if_pos (by omega), if_pos (by omega)]
        congr 1
        omega

/-- the bytes of a text -/
def textL (l : List Nat) : List UInt8 := l.flatMap encL
theorem textL_nil : textL [] = [] := rfl
theorem textL_cons (n : Nat) (l : List Nat) : textL (n :: l) = encL n ++ textL l := by simp [textL]
theorem textL_append (l m : List Nat) : textL (l ++ m) = textL l ++ textL m := by simp [textL]
theorem encL_ne (n : Nat) : encL n ≠ [] := by
  intro h
  have := encN_pos n
  have h2 := encL_length n
  rw [h] at h2; simp at h2; omega
theorem valid_text : ∀ l : List Nat, (∀ n ∈ l, okN n) → validD (textL l) = true
  | [], _ => rfl
  | n :: l, h => by
    have hn : okN n := h n (by simp)
    rw [textL_cons, validD_step _ (by simp [encL_ne]), decode_enc hn]
    have hne : ¬ (n = 65533 ∧ (encN n).length = 1) := by
      rintro ⟨rfl, h1⟩
      revert h1; decide
    rw [if_neg hne, ← encL_length, List.drop_left]
    exact valid_text l (fun m hm => h m (by simp [hm]))
theorem cons1 {α : Type} {b0 : α} {t : List α} (h : 1 < (b0 :: t).length) : ∃ b1 t', t = b1 :: t' := by
  rcases t with _ | ⟨b1, t⟩
  · exact absurd h (by simp)
  · exact ⟨b1, t, rfl⟩
theorem cons2 {α : Type} {b0 : α} {t : List α} (h : 2 < (b0 :: t).length) : ∃ b1 b2 t', t = b1 :: b2 :: t' := by
  obtain ⟨b1, t, rfl⟩ := cons1 (show 1 < (b0 :: t).length by omega)
  obtain ⟨b2, t, rfl⟩ := cons1 (show 1 < (b1 :: t).length by simp at h ⊢; omega)
  exact ⟨b1, b2, t, rfl⟩
theorem cons3 {α : Type} {b0 : α} {t : List α} (h : 3 < (b0 :: t).length) : ∃ b1 b2 b3 t', t = b1 :: b2 :: b3 :: t' := by
  obtain ⟨b1, b2, t, rfl⟩ := cons2 (show 2 < (b0 :: t).length by omega)
  obtain ⟨b3, t, rfl⟩ := cons1 (show 1 < (b2 :: t).length by simp at h ⊢; omega)
  exact ⟨b1, b2, b3, t, rfl⟩
theorem u8_eq {b : UInt8} {x : Nat} (h : b.toNat = x) : b = UInt8.ofNat x := by rw [← h]; simp
theorem enc_decode {l : List UInt8} (hne : l ≠ []) (h : ¬ ((decodeL l).1 = 65533 ∧ (decodeL l).2 = 1)) : okN (decodeL l).1 ∧ (decodeL l).2 = (encN (decodeL l).1).length ∧ l = encL (decodeL l).1 ++ l.drop (decodeL l).2 := by
  rw [decodeL_N] at h ⊢
  match l, hne with
  | b0 :: t, _ =>
    have hb0 : b0.toNat < 256 := b0.toNat_lt
    rcases decodeN_shape (b0 :: t).length ((b0 :: t).getD 0 0).toNat ((b0 :: t).getD 1 0).toNat ((b0 :: t).getD 2 0).toNat ((b0 :: t).getD 3 0).toNat with ⟨c, e⟩ | ⟨c1, c2, c3, cv, e⟩ | ⟨c1, c2, c3, c4, cv, cs, e⟩ | ⟨c1, c2, c3, c4, c5, cv, cs, e⟩ | e
    · rw [e]
      simp only [List.getD_cons_zero] at c ⊢
      refine ⟨.inl (by omega), by unfold encN; rw [if_pos c]; rfl, ?_⟩
      unfold encL encN
      rw [if_pos c]
      simp
    · obtain ⟨b1, t, rfl⟩ := cons1 c2
      · skip
        have hb1 : b1.toNat < 256 := b1.toNat_lt
        rw [e]
        simp only [List.getD_cons_zero, List.getD_cons_succ] at c1 c3 cv ⊢
        have hx : encN (b0.toNat % 32 * 64 + b1.toNat % 64) = [b0.toNat, b1.toNat] := by
          unfold encN
          rw [if_neg (by omega), if_pos (by omega)]
          congr 1
          · omega
          · congr 1; omega
        refine ⟨.inl (by omega), by rw [hx]; rfl, ?_⟩
        unfold encL; rw [hx]; simp
    · obtain ⟨b1, b2, t, rfl⟩ := cons2 c2
      · skip
        have hb1 : b1.toNat < 256 := b1.toNat_lt
        have hb2 : b2.toNat < 256 := b2.toNat_lt
        rw [e]
        simp only [List.getD_cons_zero, List.getD_cons_succ] at c1 c3 c4 cv cs ⊢
        have hx : encN (b0.toNat % 16 * 4096 + b1.toNat % 64 * 64 + b2.toNat % 64) = [b0.toNat, b1.toNat, b2.toNat] := by
          unfold encN
          rw [if_neg (by omega), if_neg (by omega), if_pos (by omega)]
          congr 1
          · omega
          · congr 1
            · omega
            · congr 1; omega
        refine ⟨by unfold okN; omega, by rw [hx]; rfl, ?_⟩
        unfold encL; rw [hx]; simp
    · obtain ⟨b1, b2, b3, t, rfl⟩ := cons3 c2
      · skip
        have hb1 : b1.toNat < 256 := b1.toNat_lt
        have hb2 : b2.toNat < 256 := b2.toNat_lt
        have hb3 : b3.toNat < 256 := b3.toNat_lt
        rw [e]
        simp only [List.getD_cons_zero, List.getD_cons_succ] at c1 c3 c4 c5 cv cs ⊢
        have hx : encN (b0.toNat % 8 * 262144 + b1.toNat % 64 * 4096 + b2.toNat % 64 * 64 + b3.toNat % 64) = [b0.toNat, b1.toNat, b2.toNat, b3.toNat] := by
          unfold encN
          rw [if_neg (by omega), if_neg (by omega), if_neg (by omega)]
          congr 1
          · omega
          · congr 1
            · omega
            · congr 1
              · omega
              · congr 1; omega
        refine ⟨by unfold okN; omega, by rw [hx]; rfl, ?_⟩
        unfold encL; rw [hx]; simp
    · rw [e] at h
      exact absurd ⟨rfl, rfl⟩ h

/-- the characters of bytes -/
def runesF : Nat → List UInt8 → List Nat
  | 0, _ => []
  | f + 1, l => if l = [] then [] else (decodeL l).1 :: runesF f (l.drop (decodeL l).2)
def runesL (l : List UInt8) : List Nat := runesF l.length l
theorem runesF_text : ∀ (l : List Nat) (f : Nat), (∀ n ∈ l, okN n) → (textL l).length ≤ f → runesF f (textL l) = l
  | [], 0, _, _ => rfl
  | [], f + 1, _, _ => by simp [runesF, textL_nil]
  | n :: l, 0, _, hf => by
    have := encN_pos n
    rw [textL_cons, List.length_append, encL_length] at hf; omega
  | n :: l, f + 1, h, hf => by
    have hn : okN n := h n (by simp)
    have hp := encN_pos n
    rw [textL_cons, List.length_append, encL_length] at hf
    rw [textL_cons]
    unfold runesF
    rw [if_neg (by simp [encL_ne]), decode_enc hn, ← encL_length, List.drop_left, runesF_text l f (fun m hm => h m (by simp [hm])) (by omega)]
theorem runes_text {l : List Nat} (h : ∀ n ∈ l, okN n) : runesL (textL l) = l := runesF_text l _ h (Nat.le_refl _)
theorem text_runesF : ∀ (f : Nat) (l : List UInt8), l.length ≤ f → validD l = true → textL (runesF f l) = l ∧ ∀ n ∈ runesF f l, okN n
  | 0, l, hf, _ => by
    have : l = [] := List.eq_nil_of_length_eq_zero (by omega)
    subst this
    exact ⟨rfl, fun n hn => by cases hn⟩
  | f + 1, l, hf, hv => by
    unfold runesF
    by_cases hne : l = []
    · rw [if_pos hne, hne]; exact ⟨rfl, fun n hn => by cases hn⟩
    · rw [if_neg hne]
      rw [validD_step l hne] at hv
      by_cases hb : (decodeL l).1 = 65533 ∧ (decodeL l).2 = 1
      · rw [if_pos hb] at hv; cases hv
      · rw [if_neg hb] at hv
        obtain ⟨h1, h2, h3⟩ := enc_decode hne hb
        have hw := decodeL_width l
        have hl : 0 < l.length := List.length_pos_iff.2 hne
        obtain ⟨e, hall⟩ := text_runesF f (l.drop (decodeL l).2) (by rw [List.length_drop]; omega) hv
        refine ⟨by rw [textL_cons, e]; exact h3.symm, fun n hn => ?_⟩
        rcases List.mem_cons.1 hn with rfl | hn
        · exact h1
        · exact hall n hn
/-- bytes that are valid are the text of their characters -/
theorem text_runes {l : List UInt8} (h : validD l = true) : textL (runesL l) = l ∧ ∀ n ∈ runesL l, okN n := text_runesF _ l (Nat.le_refl _) h
end Go.Proofs.YtokijdgakphfiaaDoor
