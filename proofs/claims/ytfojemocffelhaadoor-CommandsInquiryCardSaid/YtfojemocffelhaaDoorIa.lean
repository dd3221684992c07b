
/- Plain laws of inquiries: printable characters, texts without spaces at their ends, the bytes. -/
import Derived.Shelf.GgClosure.StringsIndexFunc
import Derived.Laws.RangeString
import Derived.Laws.RangeAny
import Derived.Lib.TrimByte
import Derived.Lib.Strings
import Derived.Lib.Repeat
set_option linter.unusedVariables false
set_option linter.unusedSimpArgs false
set_option linter.unusedSectionVars false
namespace Go.Proofs.YtfojemocffelhaaDoor

def okb (b : UInt8) : Bool := decide (32 ≤ b.toNat) && decide (b.toNat ≤ 126)
def prL (l : List UInt8) : Bool := l.all okb
def badR (r : Nat) : Bool := decide ((r : Int) < 32) || decide ((126 : Int) < r)
theorem idxP (s : ByteArray) : ∀ (f pos : Nat), s.size ≤ pos + f → decide (0 ≤ Lib.idxFuncFrom badR true s f pos) = !prL (s.data.toList.drop pos)
  | 0, pos, h => by
    rw [List.drop_eq_nil_of_le (by simpa using h)]
    rfl
  | f + 1, pos, h => by
    unfold Lib.idxFuncFrom
    by_cases hp : pos < s.size
    · rw [if_pos hp]
      have hp' : pos < s.data.toList.length := by simpa using hp
      have hd : s.data.toList.drop pos = s[pos] :: s.data.toList.drop (pos + 1) := by
        rw [List.drop_eq_getElem_cons hp']
        rfl
      rw [hd]
      by_cases ha : s[pos].toNat < 128
      · rw [decode_ascii s pos hp ha]
        by_cases hb : badR s[pos].toNat = true
        · have h1 : okb s[pos] = false := by
            simp only [badR, Bool.or_eq_true, decide_eq_true_eq] at hb
            simp only [okb, Bool.and_eq_false_iff, decide_eq_false_iff_not]
            omega
          simp [hb, prL, h1]
        · have h1 : okb s[pos] = true := by
            simp only [badR, Bool.or_eq_true, decide_eq_true_eq] at hb
            simp only [okb, Bool.and_eq_true, decide_eq_true_eq]
            omega
          simp only [hb, Bool.false_eq_true, if_false]
          rw [idxP s f (pos + 1) (by omega)]
          simp [prL, h1]
      · have hh := (decode_high s pos hp (by omega)).1
        have hb : badR (Utf8.decode s pos).1 = true := by
          simp only [badR, Bool.or_eq_true, decide_eq_true_eq]
          omega
        have h1 : okb s[pos] = false := by
          simp only [okb, Bool.and_eq_false_iff, decide_eq_false_iff_not]
          omega
        simp [hb, prL, h1]
    · rw [if_neg hp, List.drop_eq_nil_of_le (by simpa using hp)]
      rfl
theorem idx_print (s : ByteArray) : decide (0 ≤ Lib.idxFunc badR true s) = !prL s.data.toList := by
  unfold Lib.idxFunc
  rw [idxP s s.size 0 (by omega), List.drop_zero]

theorem suffix_snoc (u : List UInt8) (x : UInt8) : Lib.hasSuffix (u ++ [x]) [32] = (x == 32) := by
  unfold Lib.hasSuffix List.isSuffixOf
  rw [List.reverse_append, List.reverse_singleton, List.reverse_singleton, List.singleton_append]
  rw [Bool.eq_iff_iff]
  simp only [List.isPrefixOf, Bool.and_true, beq_iff_eq]
  exact eq_comm
theorem suffix_nil : Lib.hasSuffix [] [32] = false := rfl
theorem trim_all (k : Nat) : Lib.trimRightB (List.replicate k 32) 32 = [] := by
  simp [Lib.trimRightB, List.dropWhile_replicate]
theorem trim_pad (v : List UInt8) (k : Nat) (h : Lib.hasSuffix v [32] = false) : Lib.trimRightB (v ++ List.replicate k 32) 32 = v := by
  have e : (v ++ List.replicate k (32 : UInt8)).reverse.dropWhile (· == 32) = v.reverse.dropWhile (· == 32) := by
    rw [List.reverse_append, List.reverse_replicate, List.dropWhile_append_of_pos]
    intro a ha
    simpa using (List.mem_replicate.1 ha).2
  unfold Lib.trimRightB
  rw [e]
  rcases List.eq_nil_or_concat v with rfl | ⟨u, x, rfl⟩
  · rfl
  · rw [List.concat_eq_append] at h ⊢
    rw [suffix_snoc] at h
    simp [List.dropWhile_cons, h]

def padL (l : List UInt8) (n : Nat) : List UInt8 := l ++ List.replicate (n - l.length) 32
def inqL (v p r : List UInt8) (rem : Bool) : List UInt8 := [0, if rem then 128 else 0, 4, 2, 31, 0, 0, 0] ++ padL v 8 ++ padL p 16 ++ padL r 4
theorem pad_len {l : List UInt8} {n : Nat} (h : l.length ≤ n) : (padL l n).length = n := by simp [padL]; omega
theorem inq_len {v p r : List UInt8} {rem : Bool} (hv : v.length ≤ 8) (hp : p.length ≤ 16) (hr : r.length ≤ 4) : (inqL v p r rem).length = 36 := by
  simp [inqL, pad_len hv, pad_len hp, pad_len hr]
theorem inq_8 {v p r : List UInt8} {rem : Bool} : (inqL v p r rem).drop 8 = padL v 8 ++ (padL p 16 ++ padL r 4) := by simp [inqL]
theorem inq_16 {v p r : List UInt8} {rem : Bool} (hv : v.length ≤ 8) : (inqL v p r rem).drop 16 = padL p 16 ++ padL r 4 := by
  rw [show 16 = 8 + 8 from rfl, ← List.drop_drop, inq_8, List.drop_append_of_le_length (by rw [pad_len hv]; omega), List.drop_eq_nil_of_le (by rw [pad_len hv]; omega)]
  rfl
theorem inq_32 {v p r : List UInt8} {rem : Bool} (hv : v.length ≤ 8) (hp : p.length ≤ 16) : (inqL v p r rem).drop 32 = padL r 4 := by
  rw [show 32 = 16 + 16 from rfl, ← List.drop_drop, inq_16 hv, List.drop_append_of_le_length (by rw [pad_len hp]; omega), List.drop_eq_nil_of_le (by rw [pad_len hp]; omega)]
  rfl
/-- the text that lies at i, in k bytes -/
def cutS (bs : List UInt8) (i k : Nat) : ByteArray := ⟨(Lib.trimRightB ((bs.drop i).take k) 32).toArray⟩
theorem cut_v {v p r : List UInt8} {rem : Bool} (hv : v.length ≤ 8) (h : Lib.hasSuffix v [32] = false) : cutS (inqL v p r rem) 8 8 = ⟨v.toArray⟩ := by
  unfold cutS
  rw [inq_8, List.take_append_of_le_length (by rw [pad_len hv]; omega), List.take_of_length_le (by rw [pad_len hv]; omega), padL, trim_pad _ _ h]
theorem cut_p {v p r : List UInt8} {rem : Bool} (hv : v.length ≤ 8) (hp : p.length ≤ 16) (h : Lib.hasSuffix p [32] = false) : cutS (inqL v p r rem) 16 16 = ⟨p.toArray⟩ := by
  unfold cutS
  rw [inq_16 hv, List.take_append_of_le_length (by rw [pad_len hp]; omega), List.take_of_length_le (by rw [pad_len hp]; omega), padL, trim_pad _ _ h]
theorem cut_r {v p r : List UInt8} {rem : Bool} (hv : v.length ≤ 8) (hp : p.length ≤ 16) (hr : r.length ≤ 4) (h : Lib.hasSuffix r [32] = false) : cutS (inqL v p r rem) 32 4 = ⟨r.toArray⟩ := by
  unfold cutS
  rw [inq_32 hv hp, List.take_of_length_le (by rw [pad_len hr]; omega), padL, trim_pad _ _ h]
theorem pr_pad {l : List UInt8} (n : Nat) (h : prL l = true) : prL (padL l n) = true := by
  unfold prL at *
  rw [List.all_eq_true] at *
  intro x hx
  rcases List.mem_append.1 hx with hx | hx
  · exact h x hx
  · rw [(List.mem_replicate.1 hx).2]; rfl
theorem pr_inq {v p r : List UInt8} {rem : Bool} (hlen : (inqL v p r rem).length = 36) (hv : prL v = true) (hp : prL p = true) (hr : prL r = true) : prL (((inqL v p r rem).drop 8).take 28) = true := by
  rw [List.take_of_length_le (by simp [hlen]), inq_8]
  have h1 := pr_pad 8 hv
  have h2 := pr_pad 16 hp
  have h3 := pr_pad 4 hr
  unfold prL at *
  rw [List.all_append, List.all_append, h1, h2, h3]
  rfl
theorem repeat_32 : ∀ n, Lib.repeatL [32] n = List.replicate n 32
  | 0 => rfl
  | n + 1 => by rw [Lib.repeatL, repeat_32 n]; rfl
/-- whether a text stands in an inquiry -/
def rightL (l : List UInt8) : Bool := prL l && !Lib.hasSuffix l [32]
/-- what an inquiry's error is -/
def inqE (v p r : List UInt8) : Int := if 8 < v.length ∨ 16 < p.length ∨ 4 < r.length then 3 else if rightL v && rightL p && rightL r then 0 else 4
end Go.Proofs.YtfojemocffelhaaDoor
