/- Characters of numbers; the beginning of a text with so many units; descriptors. No condition; nothing of the program. -/
import Derived.Test.YtokijdgakphfiaaDoorTc
namespace Go.Proofs.YtokijdgakphfiaaDoor
open Go.Lib

/-- a character of any number -/
def charN (n : Nat) : Nat := if 55296 ≤ n % 1114112 ∧ n % 1114112 < 57344 then n % 1114112 - 2048 else n % 1114112
theorem charN_ok (n : Nat) : okN (charN n) := by
  unfold okN charN; split <;> omega
theorem charN_all (l : List Nat) : ∀ c ∈ l.map charN, okN c := by
  intro c hc; obtain ⟨n, _, rfl⟩ := List.mem_map.1 hc; exact charN_ok n
/-- the longest beginning with so many units -/
def cutN : List Nat → Int → List Nat
  | [], _ => []
  | c :: l, n => if n < ((splitN c).length : Int) then [] else c :: cutN l (n - ((splitN c).length : Int))
def lenU (l : List Nat) : Nat := (unitsN l).length
theorem lenU_cons (c : Nat) (l : List Nat) : lenU (c :: l) = (splitN c).length + lenU l := by unfold lenU; rw [unitsN_cons, List.length_append]
theorem lenU_nil : lenU [] = 0 := rfl
theorem cut_take : ∀ (l : List Nat) (n : Int) (m : Nat), m ≤ l.length → ((lenU (l.take m) : Nat) : Int) ≤ n → (m = l.length ∨ n < ((lenU (l.take (m + 1)) : Nat) : Int)) → cutN l n = l.take m
  | [], n, m, _, _, _ => by simp [cutN]
  | c :: l, n, 0, _, h1, h2 => by
    rcases h2 with h2 | h2
    · simp at h2
    · rw [List.take_succ_cons, List.take_zero, lenU_cons, lenU_nil] at h2
      unfold cutN
      rw [if_pos (by omega)]; rfl
  | c :: l, n, m + 1, h0, h1, h2 => by
    rw [List.take_succ_cons, lenU_cons] at h1
    unfold cutN
    rw [if_neg (by omega), List.take_succ_cons]
    congr 1
    refine cut_take l _ m (by simpa using h0) (by omega) ?_
    rcases h2 with h2 | h2
    · left; simpa using h2
    · right; rw [List.take_succ_cons, lenU_cons] at h2; omega
/-- the bytes of numbers, the lower one first -/
def pairsL (us : List Nat) : List UInt8 := us.flatMap (fun u => [UInt8.ofNat (u % 256), UInt8.ofNat (u / 256)])
theorem pairsL_len (us : List Nat) : (pairsL us).length = 2 * us.length := by
  induction us with
  | nil => rfl
  | cons u us ih => unfold pairsL at *; rw [List.flatMap_cons, List.length_append, ih]; simp; omega
theorem pairsL_append (l m : List Nat) : pairsL (l ++ m) = pairsL l ++ pairsL m := by simp [pairsL]
theorem pairsL_cons (u : Nat) (m : List Nat) : pairsL (u :: m) = [UInt8.ofNat (u % 256), UInt8.ofNat (u / 256)] ++ pairsL m := by simp [pairsL]
/-- the descriptor of numbers -/
def toldL (us : List Nat) : List UInt8 := [UInt8.ofNat (2 + 2 * us.length), 3] ++ pairsL us
theorem toldL_len (us : List Nat) : (toldL us).length = 2 + 2 * us.length := by simp [toldL, pairsL_len]; omega
/-- the numbers of pairs of bytes -/
def numsL : List UInt8 → List Nat
  | a :: b :: t => (a.toNat + 256 * b.toNat) :: numsL t
  | _ => []
theorem nums_pairs : ∀ us : List Nat, (∀ u ∈ us, u < 65536) → numsL (pairsL us) = us
  | [], _ => rfl
  | u :: us, h => by
    have hu : u < 65536 := h u (by simp)
    rw [pairsL_cons]
    show numsL (UInt8.ofNat (u % 256) :: UInt8.ofNat (u / 256) :: pairsL us) = _
    rw [numsL, toNat_of (by omega), toNat_of (by omega), nums_pairs us (fun x hx => h x (by simp [hx]))]
    congr 1
    omega
theorem pairs_nums : ∀ (k : Nat) (l : List UInt8), l.length = 2 * k → pairsL (numsL l) = l ∧ (numsL l).length = k ∧ ∀ u ∈ numsL l, u < 65536
  | 0, l, h => by
    have : l = [] := List.eq_nil_of_length_eq_zero (by omega)
    subst this
    exact ⟨rfl, rfl, fun u hu => by cases hu⟩
  | k + 1, [], h => by simp at h
  | k + 1, [a], h => by simp at h; omega
  | k + 1, a :: b :: t, h => by
    obtain ⟨h1, h2, h3⟩ := pairs_nums k t (by simp at h; omega)
    have ha := a.toNat_lt
    have hb := b.toNat_lt
    refine ⟨?_, by rw [numsL, List.length_cons, h2], fun u hu => ?_⟩
    · rw [numsL, pairsL_cons, h1, show (a.toNat + 256 * b.toNat) % 256 = a.toNat by omega, show (a.toNat + 256 * b.toNat) / 256 = b.toNat by omega]
      simp
    · rw [numsL] at hu
      rcases List.mem_cons.1 hu with e | hu
      · omega
      · exact h3 u hu
end Go.Proofs.YtokijdgakphfiaaDoor
