/- Texts as byte strings. No condition; nothing of the program. -/
import Derived.Test.YtokijdgakphfiaaDoorTb
import Derived.Laws.Cover4
import Derived.Laws.IdiomStrings
namespace Go.Proofs.YtokijdgakphfiaaDoor
open Go.Lib

theorem decodeL_ok (l : List UInt8) : okN (decodeL l).1 := by
  rw [decodeL_N]
  unfold okN
  have h0 := (l.getD 0 0).toNat_lt
  have h1 := (l.getD 1 0).toNat_lt
  rcases decodeN_shape l.length (l.getD 0 0).toNat (l.getD 1 0).toNat (l.getD 2 0).toNat (l.getD 3 0).toNat with ⟨c, e⟩ | ⟨c1, c2, c3, cv, e⟩ | ⟨c1, c2, c3, c4, cv, cs, e⟩ | ⟨c1, c2, c3, c4, c5, cv, cs, e⟩ | e
  all_goals (rw [e]; simp only; omega)
theorem runesF_ok : ∀ (f : Nat) (l : List UInt8), ∀ n ∈ runesF f l, okN n
  | 0, l, n, h => by cases h
  | f + 1, l, n, h => by
    unfold runesF at h
    split at h
    · cases h
    · rcases List.mem_cons.1 h with e | h
      · rw [e]; exact decodeL_ok l
      · exact runesF_ok f _ n h
def textB (l : List Nat) : ByteArray := ⟨(textL l).toArray⟩
theorem textB_list (l : List Nat) : (textB l).data.toList = textL l := by simp [textB]
theorem encode_eq {n : Nat} (h : okN n) : Utf8.encode (n : Int) = ⟨(encL n).toArray⟩ := by
  have hv : Utf8.valid (n : Int) = true := by
    unfold okN at h
    unfold Utf8.valid
    simp
    omega
  unfold Utf8.encode encL encN
  simp only [hv, if_true, Int.toNat_natCast]
  by_cases h1 : n < 128
  · rw [if_pos h1, if_pos h1]; rfl
  · rw [if_neg h1, if_neg h1]
    by_cases h2 : n < 2048
    · rw [if_pos h2, if_pos h2]; rfl
    · rw [if_neg h2, if_neg h2]
      by_cases h3 : n < 65536
      · rw [if_pos h3, if_pos h3]; rfl
      · rw [if_neg h3, if_neg h3]; rfl
theorem bytes_ext {a b : ByteArray} (h : a.data.toList = b.data.toList) : a = b := by
  cases a with | mk a => cases b with | mk b => congr 1; exact Array.toList_inj.1 h
theorem textB_snoc {l : List Nat} {n : Nat} (h : okN n) : textB (l ++ [n]) = textB l ++ Utf8.encode (n : Int) := by
  apply bytes_ext
  rw [encode_eq h, ByteArray.data_append, Array.toList_append, textB_list, textB_list, textL_append, textL_cons, textL_nil, List.append_nil]
theorem textB_nil : textB [] = ByteArray.empty := rfl
theorem textB_append (l m : List Nat) : textB (l ++ m) = textB l ++ textB m := by
  apply bytes_ext
  rw [ByteArray.data_append, Array.toList_append, textB_list, textB_list, textB_list, textL_append]
theorem fold_text : ∀ (l m : List Nat), (∀ n ∈ l, okN n) → (l.map (fun n : Nat => (n : Int))).foldl (fun r n => r ++ Utf8.encode n) (textB m) = textB (m ++ l)
  | [], m, _ => by simp
  | n :: l, m, h => by
    rw [List.map_cons, List.foldl_cons, ← textB_snoc (h n (by simp)), fold_text l (m ++ [n]) (fun x hx => h x (by simp [hx]))]
    simp
theorem runesBytes_eq {l : List Nat} (h : ∀ n ∈ l, okN n) : runesBytes (l.map (fun n : Nat => (n : Int))) = textB l := by
  unfold runesBytes
  rw [← textB_nil, fold_text l [] h]; simp
theorem runesFrom_at (s : ByteArray) : ∀ (f pos : Nat) (acc : Array Value), Conv.runesFrom s f pos acc = acc ++ ((runesF f (s.data.toList.drop pos)).map (fun n : Nat => Value.int .i32 (n : Int))).toArray
  | 0, pos, acc => by simp [Conv.runesFrom, runesF]
  | f + 1, pos, acc => by
    unfold Conv.runesFrom runesF
    by_cases h : pos < s.size
    · have hne : s.data.toList.drop pos ≠ [] := by
        intro e
        have := congrArg List.length e
        rw [List.length_drop, ← size_eq] at this
        simp at this; omega
      rw [if_pos h, if_neg hne, decodeL_drop, List.drop_drop]
      simp only
      rw [runesFrom_at s f]
      apply Array.toList_inj.1
      simp
    · have he : s.data.toList.drop pos = [] := List.drop_of_length_le (by rw [← size_eq]; omega)
      rw [if_neg h, if_pos he]; simp
/-- the characters of a string, as '[]rune(s)' has them -/
theorem runesFrom_eq (s : ByteArray) : Conv.runesFrom s s.size 0 #[] = ((runesL s.data.toList).map (fun n : Nat => Value.int .i32 (n : Int))).toArray := by
  rw [runesFrom_at]
  unfold runesL
  rw [← size_eq]; simp
/-- 'string([]rune(s)) == s' says that s is valid -/
theorem back_iff (s : ByteArray) : textB (runesL s.data.toList) = s ↔ validD s.data.toList = true := by
  constructor
  · intro h
    have h2 := valid_text (runesL s.data.toList) (runesF_ok _ _)
    rw [← textB_list, h] at h2
    exact h2
  · intro h
    apply bytes_ext
    rw [textB_list]; exact (text_runes h).1
end Go.Proofs.YtokijdgakphfiaaDoor
