/- The table of TextsAnswer: its texts, and why they are refused. No condition; nothing of the program. -/
import Derived.Test.YtokijdgakphfiaaDoorSo
namespace Go.Proofs.YtokijdgakphfiaaDoor
open Go.Lib

def letN (i : Nat) : Nat := 97 + i % 26
def lenN (x : UInt8) : Nat := x.toNat % 128
def textA (i : Nat) (x : UInt8) : List UInt8 := List.replicate (lenN x) (UInt8.ofNat (letN i)) ++ (if 250 < x.toNat then [255] else [])
def textOf (i : Nat) (x : UInt8) : ByteArray := ⟨(textA i x).toArray⟩
def tableOf (xs : List UInt8) : List ByteArray := xs.mapIdx textOf
/-- the error of one text -/
def errOf (x : UInt8) : Int := if 250 < x.toNat then 4 else if 126 < lenN x then 3 else 0
def wstep (q : Int) (x : UInt8) : Int := if q = 0 then errOf x else q
def wantL (xs : List UInt8) : Int := xs.foldl wstep 0
theorem letN_lt (i : Nat) : 97 ≤ letN i ∧ letN i < 123 := by unfold letN; omega
theorem letN_ok (i : Nat) (n : Nat) : ∀ c ∈ List.replicate n (letN i), okN c := by
  intro c hc
  rw [List.eq_of_mem_replicate hc]
  have := letN_lt i
  exact .inl (by omega)
theorem rep_text {c : Nat} (hc : c < 128) : ∀ n, textL (List.replicate n c) = List.replicate n (UInt8.ofNat c)
  | 0 => rfl
  | n + 1 => by
    rw [List.replicate_succ, textL_cons, rep_text hc n, List.replicate_succ]
    unfold encL encN
    rw [if_pos hc]; rfl
theorem rep_units {c : Nat} (hc : c < 65536) : ∀ n, unitsN (List.replicate n c) = List.replicate n c
  | 0 => rfl
  | n + 1 => by
    rw [List.replicate_succ, unitsN_cons, rep_units hc n]
    unfold splitN
    rw [if_pos hc]; rfl
theorem valid_app : ∀ (l : List Nat) (t : List UInt8), (∀ n ∈ l, okN n) → validD (textL l ++ t) = validD t
  | [], t, _ => rfl
  | n :: l, t, h => by
    have hn : okN n := h n (by simp)
    rw [textL_cons, List.append_assoc, validD_step _ (by simp [encL_ne]), decode_enc hn]
    have hne : ¬ (n = 65533 ∧ (encN n).length = 1) := by
      rintro ⟨rfl, h1⟩
      revert h1; decide
    rw [if_neg hne, ← encL_length, List.drop_left]
    exact valid_app l t (fun m hm => h m (by simp [hm]))
theorem bad255 : validD [255] = false := by
  rw [validD_step _ (by simp)]
  have h : decodeL [255] = (65533, 1) := by decide
  rw [h]; rfl
theorem textOf_ok {i : Nat} {x : UInt8} (h : x.toNat ≤ 250) : textOf i x = textB (List.replicate (lenN x) (letN i)) := by
  apply bytes_ext
  have := letN_lt i
  rw [textB_list, rep_text (by omega)]
  simp [textOf, textA, show ¬ 250 < x.toNat by omega]
theorem textOf_bad {i : Nat} {x : UInt8} (h : 250 < x.toNat) : validD (textOf i x).data.toList = false := by
  have hl := letN_lt i
  have e : (textOf i x).data.toList = textL (List.replicate (lenN x) (letN i)) ++ [255] := by
    rw [rep_text (by omega)]
    simp [textOf, textA, h]
  rw [e, valid_app _ _ (letN_ok i _), bad255]
theorem encErr_of (i : Nat) (x : UInt8) : encErr (textOf i x) = errOf x := by
  unfold errOf
  by_cases h : 250 < x.toNat
  · rw [if_pos h]
    unfold encErr
    rw [textOf_bad h]; rfl
  · have hl := letN_lt i
    rw [if_neg h, textOf_ok (by omega)]
    unfold encErr
    rw [textB_list, if_pos (valid_text _ (letN_ok i _))]
    have hr : runesB (textB (List.replicate (lenN x) (letN i))) = List.replicate (lenN x) (letN i) := by unfold runesB; rw [textB_list]; exact runes_text (letN_ok i _)
    rw [hr]
    unfold lenU
    rw [rep_units (by omega), List.length_replicate]
theorem foldl_stay {q : Int} (hq : q ≠ 0) : ∀ xs : List UInt8, xs.foldl wstep q = q
  | [] => rfl
  | x :: xs => by
    rw [List.foldl_cons]
    unfold wstep
    rw [if_neg hq]
    exact foldl_stay hq xs
theorem first_want : ∀ (xs : List UInt8) (k : Nat), firstErr (xs.mapIdx (fun i x => textOf (i + k) x)) = xs.foldl wstep 0
  | [], _ => rfl
  | x :: xs, k => by
    rw [List.mapIdx_cons, firstErr, encErr_of, List.foldl_cons]
    have e : wstep 0 x = errOf x := by unfold wstep; rw [if_pos rfl]
    rw [e]
    by_cases h : errOf x = 0
    · rw [if_pos h, h]
      have := first_want xs (k + 1)
      rw [← this]
      congr 1
      apply List.ext_getElem
      · simp
      · intro i h1 h2
        simp
        congr 1
        omega
    · rw [if_neg h, foldl_stay h]
theorem first_table (xs : List UInt8) : firstErr (tableOf xs) = wantL xs := first_want xs 0
theorem table_len (xs : List UInt8) : (tableOf xs).length = xs.length := by simp [tableOf]
theorem check_table (xs : List UInt8) : checkErr (tableOf xs) = if 64 < xs.length then 3 else wantL xs := by
  unfold checkErr
  rw [table_len, first_table]
theorem want_take {xs : List UInt8} {k : Nat} {x : UInt8} (h : xs[k]? = some x) : wantL (xs.take (k + 1)) = wstep (wantL (xs.take k)) x := by
  obtain ⟨hk, e⟩ := List.getElem?_eq_some_iff.1 h
  unfold wantL
  rw [List.take_succ_eq_append_getElem hk, e, List.foldl_append]; rfl
theorem table_take {xs : List UInt8} {k : Nat} {x : UInt8} (h : xs[k]? = some x) : tableOf (xs.take (k + 1)) = tableOf (xs.take k) ++ [textOf k x] := mapIdx_take_succ h
theorem textOf_size (i : Nat) (x : UInt8) : (textOf i x).size ≤ 128 := by
  rw [Lib.size_eq]
  show (textA i x).length ≤ 128
  unfold textA
  have h : lenN x < 128 := Nat.mod_lt _ (by decide)
  split
  · simp; omega
  · simp; omega
end Go.Proofs.YtokijdgakphfiaaDoor
