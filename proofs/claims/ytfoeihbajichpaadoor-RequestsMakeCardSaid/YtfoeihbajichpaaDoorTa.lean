/- Requests as plain data: their texts, and what Parse finds in a text. No condition; nothing of the program. -/
import Derived.Lib.ItoaMem
import Derived.Lib.Join
import Derived.Lib.Split
import Derived.Lib.AtoiAll
import Derived.Lib.SlicesS
import Derived.KernelRfl
set_option linter.unusedVariables false
set_option linter.unusedSimpArgs false
set_option linter.unusedSectionVars false
namespace Go.Proofs.YtfoeihbajichpaaDoor
open Go

def namesL : List (List UInt8) := [[71, 101, 116, 83, 116, 97, 116, 117, 115],
  [67, 108, 101, 97, 114, 70, 101, 97, 116, 117, 114, 101],
  [],
  [83, 101, 116, 70, 101, 97, 116, 117, 114, 101],
  [],
  [83, 101, 116, 65, 100, 100, 114, 101, 115, 115],
  [71, 101, 116, 68, 101, 115, 99, 114, 105, 112, 116, 111, 114],
  [83, 101, 116, 68, 101, 115, 99, 114, 105, 112, 116, 111, 114],
  [71, 101, 116, 67, 111, 110, 102, 105, 103, 117, 114, 97, 116, 105, 111, 110],
  [83, 101, 116, 67, 111, 110, 102, 105, 103, 117, 114, 97, 116, 105, 111, 110],
  [71, 101, 116, 73, 110, 116, 101, 114, 102, 97, 99, 101],
  [83, 101, 116, 73, 110, 116, 101, 114, 102, 97, 99, 101],
  [83, 121, 110, 99, 104, 70, 114, 97, 109, 101]]
def kindsL : List (List UInt8) := [[115, 116, 97, 110, 100, 97, 114, 100], [99, 108, 97, 115, 115], [118, 101, 110, 100, 111, 114], [114, 101, 115, 101, 114, 118, 101, 100]]
def whomL : List (List UInt8) := [[100, 101, 118, 105, 99, 101], [105, 110, 116, 101, 114, 102, 97, 99, 101], [101, 110, 100, 112, 111, 105, 110, 116], [111, 116, 104, 101, 114]]
def inL : List UInt8 := [105, 110]
def outL : List UInt8 := [111, 117, 116]
def B8 (l : List UInt8) : ByteArray := ⟨l.toArray⟩
theorem B8_list (l : List UInt8) : (B8 l).data.toList = l := rfl
theorem B8_size (l : List UInt8) : (B8 l).size = l.length := rfl
theorem B8_inj {a b : ByteArray} (h : a.data.toList = b.data.toList) : a = b := by
  cases a with | mk a => cases b with | mk b => congr 1; exact Array.toList_inj.1 h
theorem B8_of (s : ByteArray) : B8 s.data.toList = s := B8_inj rfl
def namesB : List ByteArray := namesL.map B8
def kindsB : List ByteArray := kindsL.map B8
def whomB : List ByteArray := whomL.map B8
def noneB : List ByteArray := [B8 []]

/-- a request -/
structure Rq where
  typ : Int
  code : Int
  val : Int
  idx : Int
  len : Int
def Rq.ok (r : Rq) : Prop := (0 ≤ r.typ ∧ r.typ < 256) ∧ (0 ≤ r.code ∧ r.code < 256) ∧ (0 ≤ r.val ∧ r.val < 65536) ∧ (0 ≤ r.idx ∧ r.idx < 65536) ∧ (0 ≤ r.len ∧ r.len < 65536)
def nameW (c : Int) : List UInt8 := namesL.getD c.toNat []
def wayW (t : Int) : List UInt8 := if 128 ≤ t then inL else outL
def kindW (t : Int) : List UInt8 := kindsL.getD (t / 32 % 4).toNat []
def whomW (t : Int) : List UInt8 := if t % 32 < 4 then whomL.getD (t % 32).toNat [] else Lib.itoa (t % 32)
def codeW (t c : Int) : List UInt8 := if t / 32 % 4 = 0 ∧ nameW c ≠ [] then nameW c else Lib.itoa c
def wordsL (r : Rq) : List (List UInt8) := [wayW r.typ, kindW r.typ, whomW r.typ, codeW r.typ r.code, Lib.itoa r.val, Lib.itoa r.idx, Lib.itoa r.len]
def textL (r : Rq) : List UInt8 := Lib.join (wordsL r) [32]
def textB (r : Rq) : ByteArray := B8 (textL r)
def spB : ByteArray := B8 [32]
def wordsB (s : ByteArray) : List ByteArray := Lib.splitB spB 0 (Lib.countB s spB) s

/-! numerals -/
theorem pu_snoc (d : Nat) (hd : d < 10) : ∀ (l : List UInt8) (acc m : Nat), Lib.parseUint10 acc l = .ok m → m < 1000000000000 → Lib.parseUint10 acc (l ++ [UInt8.ofNat (48 + d)]) = .ok (m * 10 + d)
  | [], acc, m, h, hm => by
    have e : acc = m := by simpa [Lib.parseUint10] using h
    subst e
    have h1 : (UInt8.ofNat (48 + d)).toNat = 48 + d := by rw [UInt8.toNat_ofNat']; omega
    rw [List.nil_append, Lib.parseUint10, h1, if_pos (by omega), if_neg (by omega), if_neg (by omega), Lib.parseUint10]
    congr 1; omega
  | c :: r, acc, m, h, hm => by
    rw [Lib.parseUint10] at h
    rw [List.cons_append, Lib.parseUint10]
    split at h
    · rename_i hc
      rw [if_pos hc]
      split at h
      · cases h
      · rename_i h2
        rw [if_neg h2]
        split at h
        · cases h
        · rename_i h3
          rw [if_neg h3]
          exact pu_snoc d hd r _ m h hm
    · cases h
theorem pu_dec : ∀ (u : Nat), u < 1000000000000 → Lib.parseUint10 0 (Lib.decDigits u) = .ok u := by
  intro u
  induction u using Nat.strongRecOn with
  | _ u ih =>
    intro hu
    rw [Lib.decDigits]
    split
    · rename_i h
      have := pu_snoc u h [] 0 0 rfl (by omega)
      simpa using this
    · rename_i h
      have h1 := ih (u / 10) (by omega) (by omega)
      have h2 := pu_snoc (u % 10) (by omega) _ 0 _ h1 (by omega)
      rw [h2]; congr 1; omega
theorem dec_bytes : ∀ (u : Nat), ∀ c ∈ Lib.decDigits u, 48 ≤ c.toNat ∧ c.toNat ≤ 57 := by
  intro u
  induction u using Nat.strongRecOn with
  | _ u ih =>
    intro c hc
    rw [Lib.decDigits] at hc
    have hd : ∀ d : Nat, d < 10 → (UInt8.ofNat (48 + d)).toNat = 48 + d := fun d hd => by rw [UInt8.toNat_ofNat']; omega
    split at hc
    · rename_i h
      have e : c = UInt8.ofNat (48 + u) := by simpa using hc
      rw [e, hd u h]; omega
    · rename_i h
      rcases List.mem_append.1 hc with h1 | h1
      · exact ih (u / 10) (by omega) c h1
      · have e : c = UInt8.ofNat (48 + u % 10) := by simpa using h1
        rw [e, hd _ (by omega)]; omega
theorem dec_ne (u : Nat) : Lib.decDigits u ≠ [] := fun e => by
  have := Lib.decDigits_length u
  rw [e] at this
  have := Lib.nDigits_pos u
  simp at *; omega
theorem itoa_dec {n : Int} (h : 0 ≤ n) : Lib.itoa n = Lib.decDigits n.toNat := by unfold Lib.itoa; rw [if_neg (by omega)]
theorem atoi_dec (u : Nat) (hu : u < 1000000) : Lib.atoiAll (Lib.decDigits u) = .ok (u : Int) := by
  have h1 := pu_dec u (by omega)
  have h2 := dec_ne u
  have h3 := dec_bytes u
  cases hd : Lib.decDigits u with
  | nil => exact absurd hd h2
  | cons c r =>
    rw [hd] at h1 h3
    have hc := h3 c (by simp)
    unfold Lib.atoiAll
    dsimp only
    rw [if_neg (show ¬ (c.toNat = 43 ∨ c.toNat = 45) by omega)]
    have hm : Lib.parseMag (c :: r) = .ok u := by unfold Lib.parseMag; rw [if_neg (by simp)]; exact h1
    rw [hm]
    dsimp only
    rw [if_neg (by omega), if_neg (by omega), if_neg (by omega)]
theorem atoi_itoa {n : Int} (h0 : 0 ≤ n) (h1 : n < 65536) : Lib.atoiAll (Lib.itoa n) = .ok n := by
  rw [itoa_dec h0, atoi_dec n.toNat (by omega)]
  congr 1; omega
theorem itoa_clean {n : Int} (h0 : 0 ≤ n) : ∀ c ∈ Lib.itoa n, c ≠ 32 := by
  intro c hc e
  rw [itoa_dec h0] at hc
  have := (dec_bytes _ c hc).1
  rw [e] at this
  exact absurd this (by decide)

/-! words -/
def Clean (l : List UInt8) : Prop := ∀ c ∈ l, c ≠ 32
theorem index_sep : ∀ (w r : List UInt8), Clean w → Lib.index (w ++ 32 :: r) [32] = w.length := by
  intro w r h
  refine Lib.index_first (by simp) ?_ ?_
  · simp [Lib.occAt]
  · intro j hj
    have hc : (w ++ 32 :: r)[j]? = some w[j] := by rw [List.getElem?_append_left hj, List.getElem?_eq_getElem hj]
    have hne : w[j] ≠ 32 := h _ (List.getElem_mem hj)
    rw [Bool.eq_false_iff]
    intro ho
    simp only [Lib.occAt, List.isPrefixOf_iff_prefix, beq_iff_eq] at ho
    have : ((w ++ 32 :: r).drop j)[0]? = some 32 := by
      first
        | (obtain ⟨t, ht⟩ := ho; rw [← ht]; rfl)
        | (have h2 := congrArg (fun l => l[0]?) ho; simpa using h2)
    rw [List.getElem?_drop, Nat.add_zero, hc] at this
    exact hne (by simpa using this)
theorem index_clean : ∀ (w : List UInt8), Clean w → Lib.index w [32] = -1 := by
  intro w h
  refine Lib.index_none ?_
  intro j hj
  rw [Bool.eq_false_iff]
  intro ho
  simp only [Lib.occAt, List.isPrefixOf_iff_prefix, beq_iff_eq] at ho
  have : (w.drop j)[0]? = some 32 := by
    first
      | (obtain ⟨t, ht⟩ := ho; rw [← ht]; rfl)
      | (have h2 := congrArg (fun l => l[0]?) ho; simpa using h2)
  rw [List.getElem?_drop, Nat.add_zero] at this
  exact h 32 (List.mem_of_getElem? this) rfl
theorem split_join : ∀ (ws : List (List UInt8)), ws ≠ [] → (∀ w ∈ ws, Clean w) → Lib.split (Lib.join ws [32]) [32] = ws
  | [], h, _ => absurd rfl h
  | [w], _, h => by
    have hi := index_clean w (h w (by simp))
    rw [Lib.join_one]
    unfold Lib.split
    rw [Lib.count_miss hi]; rfl
  | w :: v :: ws, _, h => by
    have ih := split_join (v :: ws) (by simp) (fun x hx => h x (by simp [List.mem_cons] at hx ⊢; right; exact hx))
    have e : Lib.join (w :: v :: ws) [32] = w ++ 32 :: Lib.join (v :: ws) [32] := by
      simp [Lib.join, List.intercalate, List.intersperse]
    rw [e]
    have hi := index_sep w (Lib.join (v :: ws) [32]) (h w (by simp))
    have hd : (w ++ 32 :: Lib.join (v :: ws) [32]).drop (w.length + 1) = Lib.join (v :: ws) [32] := by
      rw [List.drop_append]; simp
    unfold Lib.split at ih ⊢
    rw [Lib.count_hit (by simp) hi, Nat.add_comm, Lib.splitK, hi, if_neg (by simp)]
    simp only [Int.toNat_natCast, List.length_singleton, Nat.add_zero, hd, List.take_left]
    rw [ih]
theorem map_data_inj : ∀ {a : List ByteArray} {l : List (List UInt8)}, a.map (·.data.toList) = l → a = l.map B8
  | [], _, h => by subst h; rfl
  | x :: r, _, h => by subst h; simp only [List.map_cons, B8_of, List.map_map]; congr 1; exact map_data_inj rfl |>.trans (by simp [List.map_map])
theorem words_join (ws : List (List UInt8)) (h : ws ≠ []) (hc : ∀ w ∈ ws, Clean w) : wordsB (B8 (Lib.join ws [32])) = ws.map B8 := by
  refine map_data_inj ?_
  unfold wordsB
  rw [Lib.splitB_data]
  exact split_join ws h hc

/-! what Parse reads -/
def readB (l : List ByteArray) (s : ByteArray) (most : Int) : Int × Bool :=
  if 0 ≤ Lib.idxOfS l s ∧ s.size ≠ 0 then (Lib.idxOfS l s, false)
  else match Lib.atoiAll s.data.toList with
    | .ok v => (v, decide (v < 0) || decide (most < v))
    | .range => (Lib.atoiSat s.data.toList, true)
    | _ => (0, true)
def codeB (s : ByteArray) : Option Int := if s.size ≠ 0 ∧ 0 ≤ Lib.idxOfS namesB s then some (Lib.idxOfS namesB s) else none
def typeI (i : Bool) (k w : Int) : Int := if 3 < k ∨ 31 < w then 0 else (if i then 128 else 0) + 32 * k + w
def codeR (s : ByteArray) : Int × Bool := match codeB s with | some i => (i, false) | none => readB noneB s 255
def parseP (l0 l1 l2 l3 l4 l5 l6 : ByteArray) : Rq :=
  ⟨typeI (l0.toList == inL) ((readB kindsB l1 (-1)).1 % 256) ((readB whomB l2 31).1 % 256), (codeR l3).1 % 256, (readB noneB l4 65535).1 % 65536, (readB noneB l5 65535).1 % 65536, (readB noneB l6 65535).1 % 65536⟩
def parseW (l1 l2 l3 l4 l5 l6 : ByteArray) : Bool :=
  (readB kindsB l1 (-1)).2 || (readB whomB l2 31).2 || (codeR l3).2 || (readB noneB l4 65535).2 || (readB noneB l5 65535).2 || (readB noneB l6 65535).2
theorem typeI_ok (i : Bool) {k w : Int} (hk : 0 ≤ k) (hw : 0 ≤ w) : 0 ≤ typeI i k w ∧ typeI i k w < 256 := by
  unfold typeI; cases i <;> simp only [Bool.false_eq_true, if_true, if_false] <;> split <;> omega
theorem parseP_ok (l0 l1 l2 l3 l4 l5 l6 : ByteArray) : (parseP l0 l1 l2 l3 l4 l5 l6).ok :=
  ⟨typeI_ok _ (Int.emod_nonneg _ (by decide)) (Int.emod_nonneg _ (by decide)), ⟨Int.emod_nonneg _ (by decide), Int.emod_lt_of_pos _ (by decide)⟩, ⟨Int.emod_nonneg _ (by decide), Int.emod_lt_of_pos _ (by decide)⟩, ⟨Int.emod_nonneg _ (by decide), Int.emod_lt_of_pos _ (by decide)⟩, ⟨Int.emod_nonneg _ (by decide), Int.emod_lt_of_pos _ (by decide)⟩⟩

theorem read_num {l : List ByteArray} {n most : Int} (hl : ∀ x ∈ l, ∀ c ∈ x.data.toList, c.toNat < 48 ∨ 57 < c.toNat) (h0 : 0 ≤ n) (h1 : n ≤ most) (h2 : n < 65536) : readB l (B8 (Lib.itoa n)) most = (n, false) := by
  have hi : ¬ (0 ≤ Lib.idxOfS l (B8 (Lib.itoa n)) ∧ (B8 (Lib.itoa n)).size ≠ 0) := by
    rintro ⟨h, hne⟩
    have hm := (Lib.idxOfS_nonneg_iff _ _).1 h
    rw [B8_size, itoa_dec h0] at hne
    obtain ⟨c, hc⟩ := List.exists_mem_of_length_pos (Nat.pos_of_ne_zero hne)
    have h3 := dec_bytes _ c hc
    have h4 := hl _ hm c (by rw [B8_list, itoa_dec h0]; exact hc)
    omega
  unfold readB
  rw [if_neg hi, B8_list, atoi_itoa h0 h2]
  have e1 : decide (n < 0) = false := decide_eq_false (by omega)
  have e2 : decide (most < n) = false := decide_eq_false (by omega)
  simp [e1, e2]
theorem read_word {l : List ByteArray} {s : ByteArray} {k : Nat} {most : Int} (hs : s.size ≠ 0) (h : Lib.idxOfS l s = k) : readB l s most = ((k : Int), false) := by
  unfold readB; rw [if_pos ⟨by rw [h]; omega, hs⟩, h]
theorem names_letters : ∀ x ∈ namesB, ∀ c ∈ x.data.toList, c.toNat < 48 ∨ 57 < c.toNat := by decide +kernel
theorem kinds_letters : ∀ x ∈ kindsB, ∀ c ∈ x.data.toList, c.toNat < 48 ∨ 57 < c.toNat := by decide +kernel
theorem whom_letters : ∀ x ∈ whomB, ∀ c ∈ x.data.toList, c.toNat < 48 ∨ 57 < c.toNat := by decide +kernel
theorem none_letters : ∀ x ∈ noneB, ∀ c ∈ x.data.toList, c.toNat < 48 ∨ 57 < c.toNat := by decide +kernel
theorem names_clean : ∀ x ∈ namesL, Clean x := by unfold Clean; decide +kernel
theorem kinds_clean : ∀ x ∈ kindsL, Clean x := by unfold Clean; decide +kernel
theorem whom_clean : ∀ x ∈ whomL, Clean x := by unfold Clean; decide +kernel
theorem kinds_at : ∀ k : Fin 4, Lib.idxOfS kindsB (B8 (kindsL.getD k.val [])) = ((k.val : Nat) : Int) ∧ (B8 (kindsL.getD k.val [])).size ≠ 0 := by decide +kernel
theorem whom_at : ∀ k : Fin 4, Lib.idxOfS whomB (B8 (whomL.getD k.val [])) = ((k.val : Nat) : Int) ∧ (B8 (whomL.getD k.val [])).size ≠ 0 := by decide +kernel
theorem names_at : ∀ k : Fin 13, (B8 (namesL.getD k.val [])).size ≠ 0 → Lib.idxOfS namesB (B8 (namesL.getD k.val [])) = ((k.val : Nat) : Int) := by decide +kernel
theorem code_num {n : Int} (h0 : 0 ≤ n) : codeB (B8 (Lib.itoa n)) = none := by
  unfold codeB
  rw [if_neg]
  rintro ⟨hne, h⟩
  have hm := (Lib.idxOfS_nonneg_iff _ _).1 h
  rw [B8_size, itoa_dec h0] at hne
  obtain ⟨c, hc⟩ := List.exists_mem_of_length_pos (Nat.pos_of_ne_zero hne)
  have h3 := dec_bytes _ c hc
  have h4 := names_letters _ hm c (by rw [B8_list, itoa_dec h0]; exact hc)
  omega
theorem getD_clean {l : List (List UInt8)} (h : ∀ x ∈ l, Clean x) (k : Nat) : Clean (l.getD k []) := by
  rw [List.getD_eq_getElem?_getD]
  cases hk : l[k]? with
  | none => intro c hc; cases hc
  | some x => exact h x (List.mem_of_getElem? hk)
theorem words_clean {r : Rq} (h : r.ok) : ∀ w ∈ wordsL r, Clean w := by
  obtain ⟨⟨a0, a1⟩, ⟨b0, b1⟩, ⟨c0, c1⟩, ⟨d0, d1⟩, ⟨e0, e1⟩⟩ := h
  intro w hw
  simp only [wordsL, List.mem_cons, List.not_mem_nil, or_false] at hw
  rcases hw with rfl | rfl | rfl | rfl | rfl | rfl | rfl
  · unfold wayW Clean; split <;> decide
  · exact getD_clean kinds_clean _
  · unfold whomW; split
    · exact getD_clean whom_clean _
    · exact itoa_clean (by omega)
  · unfold codeW; split
    · exact getD_clean names_clean _
    · exact itoa_clean b0
  · exact itoa_clean c0
  · exact itoa_clean d0
  · exact itoa_clean e0
theorem words_text {r : Rq} (h : r.ok) : wordsB (textB r) = (wordsL r).map B8 := words_join _ (by simp [wordsL]) (words_clean h)
theorem nameW_lt {c : Int} (h : nameW c ≠ []) : c.toNat < 13 := by
  unfold nameW at h
  rw [List.getD_eq_getElem?_getD] at h
  by_cases hc : c.toNat < 13
  · exact hc
  · rw [List.getElem?_eq_none (show namesL.length ≤ c.toNat from Nat.le_of_not_lt hc)] at h
    exact absurd rfl h
/-- what Parse reads in the text of a request -/
theorem parse_text {r : Rq} (h : r.ok) : parseP (B8 (wayW r.typ)) (B8 (kindW r.typ)) (B8 (whomW r.typ)) (B8 (codeW r.typ r.code)) (B8 (Lib.itoa r.val)) (B8 (Lib.itoa r.idx)) (B8 (Lib.itoa r.len)) = r ∧
    parseW (B8 (kindW r.typ)) (B8 (whomW r.typ)) (B8 (codeW r.typ r.code)) (B8 (Lib.itoa r.val)) (B8 (Lib.itoa r.idx)) (B8 (Lib.itoa r.len)) = false := by
  obtain ⟨⟨a0, a1⟩, ⟨b0, b1⟩, ⟨c0, c1⟩, ⟨d0, d1⟩, ⟨e0, e1⟩⟩ := h
  have hk : readB kindsB (B8 (kindW r.typ)) (-1) = (r.typ / 32 % 4, false) := by
    have h4 := kinds_at ⟨(r.typ / 32 % 4).toNat, by omega⟩
    rw [show kindW r.typ = kindsL.getD (r.typ / 32 % 4).toNat [] from rfl, read_word h4.2 h4.1]
    simp only [Prod.mk.injEq, and_true]; omega
  have hw : readB whomB (B8 (whomW r.typ)) 31 = (r.typ % 32, false) := by
    by_cases h4 : r.typ % 32 < 4
    · have h5 := whom_at ⟨(r.typ % 32).toNat, by omega⟩
      rw [show whomW r.typ = whomL.getD (r.typ % 32).toNat [] from if_pos h4, read_word h5.2 h5.1]
      simp only [Prod.mk.injEq, and_true]; omega
    · rw [show whomW r.typ = Lib.itoa (r.typ % 32) from if_neg h4, read_num whom_letters (by omega) (by omega) (by omega)]
  have hc : codeR (B8 (codeW r.typ r.code)) = (r.code, false) := by
    by_cases h4 : r.typ / 32 % 4 = 0 ∧ nameW r.code ≠ []
    · rw [show codeW r.typ r.code = nameW r.code from if_pos h4]
      have hlt := nameW_lt h4.2
      have hne : (B8 (nameW r.code)).size ≠ 0 := by rw [B8_size]; exact fun e => h4.2 (List.eq_nil_of_length_eq_zero e)
      have h5 := names_at ⟨r.code.toNat, hlt⟩ hne
      have h6 : codeB (B8 (nameW r.code)) = some r.code := by
        unfold codeB
        rw [show Lib.idxOfS namesB (B8 (nameW r.code)) = r.code by rw [show Lib.idxOfS namesB (B8 (nameW r.code)) = ((r.code.toNat : Nat) : Int) from h5]; omega, if_pos ⟨hne, b0⟩]
      unfold codeR; rw [h6]
    · rw [show codeW r.typ r.code = Lib.itoa r.code from if_neg h4]
      unfold codeR; rw [code_num b0]
      exact read_num none_letters b0 (by omega) (by omega)
  have hin : ((B8 (wayW r.typ)).toList == inL) = decide (128 ≤ r.typ) := by
    by_cases h4 : 128 ≤ r.typ
    · rw [show wayW r.typ = inL from if_pos h4, decide_eq_true h4]; decide +kernel
    · rw [show wayW r.typ = outL from if_neg h4, decide_eq_false h4]; decide +kernel
  have ht : typeI (decide (128 ≤ r.typ)) (r.typ / 32 % 4 % 256) (r.typ % 32 % 256) = r.typ := by
    unfold typeI
    by_cases h4 : 128 ≤ r.typ
    · rw [decide_eq_true h4, if_neg (by omega)]; simp only [if_true]; omega
    · rw [decide_eq_false h4, if_neg (by omega)]; simp only [Bool.false_eq_true, if_false]; omega
  constructor
  · unfold parseP
    rw [hk, hw, hc, hin, read_num none_letters c0 (by omega) c1, read_num none_letters d0 (by omega) d1, read_num none_letters e0 (by omega) e1]
    dsimp only
    rw [ht, Int.emod_eq_of_lt b0 b1, Int.emod_eq_of_lt c0 c1, Int.emod_eq_of_lt d0 d1, Int.emod_eq_of_lt e0 e1]
  · unfold parseW
    rw [hk, hw, hc, read_num none_letters c0 (by omega) c1, read_num none_letters d0 (by omega) d1, read_num none_letters e0 (by omega) e1]
    rfl
/-- a text tells its request -/
theorem text_inj {r q : Rq} (hr : r.ok) (hq : q.ok) (h : textB r = textB q) : r = q := by
  have h1 := words_text hr
  have h2 := words_text hq
  rw [h, h2] at h1
  have h3 : wordsL q = wordsL r := by
    have := congrArg (List.map (fun b : ByteArray => b.data.toList)) h1
    simpa [List.map_map, Function.comp_def, B8_list] using this
  have p1 := (parse_text hr).1
  have p2 := (parse_text hq).1
  simp only [wordsL, List.cons.injEq, and_true] at h3
  obtain ⟨q0, q1, q2, q3, q4, q5, q6⟩ := h3
  rw [← p1, ← p2, q0, q1, q2, q3, q4, q5, q6]
end Go.Proofs.YtfoeihbajichpaaDoor
