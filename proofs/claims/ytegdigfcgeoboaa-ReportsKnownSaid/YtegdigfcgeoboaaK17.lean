/- The law of the chapter on reports, part 17: Wa Wb. -/
import Derived.Test.YtegdigfcgeoboaaK16
set_option maxHeartbeats 16000000
set_option linter.unusedVariables false
set_option linter.unusedSimpArgs false
set_option linter.unusedSectionVars false
namespace Go.Proofs.Ytegdigfcgeoboaa
open Go.RowKit
structure PF where
 kind : Int
 report : Int
 first : Int
 many : Int
 lo : Int
 more : Int
 count : Int
 flags : Int
structure PD where
 numbers : Bool
 fields : List PF
def PF.ok (f : PF) : Prop := u8k f.kind ∧ u8k f.report ∧ u8k f.first ∧ u8k f.many ∧ (-32768 ≤ f.lo ∧ f.lo ≤ 32767) ∧ (0 ≤ f.more ∧ f.more ≤ 65535) ∧ u8k f.count ∧ u8k f.flags
def manyF (f : PF) : Nat := (f.many % 6).toNat + 1
def usagesF (f : PF) : List Int := (List.range (manyF f)).map fun (k : Nat) => 458752 + f.first + (k : Int)
def badSz (lo hi : Int) (n : Nat) : Bool := decide (2 ^ n ≤ hi) || (decide (lo < 0) && (decide (lo < -(2 ^ (n - 1))) || decide (2 ^ (n - 1) ≤ hi)))
def szF : Nat → Int → Int → Nat → Nat
 | 0, _, _, n => n
 | k + 1, lo, hi, n => if badSz lo hi n = true then szF k lo hi (n + 1) else n
def sizeF (lo hi : Int) : Nat := szF 20 lo hi 1
def fdS (numbers : Bool) (f : PF) : Fd :=
 ⟨1 + f.kind % 3, if numbers then 1 + f.report % 3 else 0, 0, usagesF f, f.lo, f.lo + f.more, sizeF f.lo (f.lo + f.more), 1 + f.count % 6, 0, f.flags % 2 == 1, f.flags / 2 % 2 == 0, decide (f.lo < 0), f.flags / 4 % 2 == 1⟩
def fd0 : Fd := ⟨0, 0, 0, [], 0, 0, 0, 0, 0, false, false, false, false⟩
def headI2 : List It := [itemS 1 0 1 false, itemS 2 0 6 false, itemS 0 10 1 false, itemS 1 0 7 false]
def betweenI : List It := [itemS 1 10 0 false, itemS 1 0 9 false, itemS 1 1 (-5) true, itemS 1 7 9 false, itemS 1 11 0 false]
def beginsB (f : PF) (depth : Nat) : Bool := (f.flags / 8 % 2 == 1) && decide (depth < 5)
def endsB (f : PF) (depth : Nat) : Bool := (f.flags / 16 % 2 == 1) && decide (1 < depth)
def beginI (i : Nat) : List It := [itemS 2 0 (i : Int) false, itemS 0 10 (((i % 4 : Nat)) : Int) false]
def ask (w3 : Int) (i : Nat) (a b : Int) : Bool := !(w3 == 1) || (decide (i = 0) || !(a == b))
def usesI (w2 : Int) (f : PF) : List It :=
 if w2 = 0 then [itemS 2 1 f.first false, itemS 2 2 (f.first + ((manyF f - 1 : Nat) : Int)) false] else (List.range (manyF f)).map fun (k : Nat) => itemS 2 0 (f.first + (k : Int)) false
def tagF (k : Int) : Int := if k = 1 then 8 else if k = 2 then 9 else 11
def endI : It := itemS 0 12 0 false
def i1 (f : PF) (i d : Nat) : List It := if beginsB f d then beginI i else []
def i2 (w3 : Int) : List It := if w3 = 2 then betweenI else []
def i3 (w3 : Int) (i : Nat) (l f : Fd) : List It := if ask w3 i l.lo f.lo then [itemS 1 1 f.lo true] else []
def i4 (w3 : Int) (i : Nat) (l f : Fd) : List It := if ask w3 i l.hi f.hi then [itemS 1 2 f.hi true] else []
def i5 (w3 : Int) (i : Nat) (l f : Fd) : List It := if ask w3 i l.size f.size then [itemS 1 7 f.size false] else []
def i6 (w3 : Int) (i : Nat) (l f : Fd) : List It := if ask w3 i l.count f.count then [itemS 1 9 f.count false] else []
def i7 (nb : Bool) (w3 : Int) (i : Nat) (l f : Fd) : List It := if nb && ask w3 i l.report f.report then [itemS 1 8 f.report false] else []
def i9 (f : PF) (g : Fd) : List It := [itemS 0 (tagF g.kind) (f.flags % 8) false]
def d1 (f : PF) (d : Nat) : Nat := if beginsB f d then d + 1 else d
def i10 (f : PF) (d : Nat) : List It := if endsB f d then [endI] else []
def d2 (f : PF) (d : Nat) : Nat := if endsB f d then d - 1 else d
structure SI where
 out : List It
 depth : Nat
 last : Fd
def stepI (w3 w2 : Int) (nb : Bool) (i : Nat) (s : SI) (f : PF) : SI :=
 let g := fdS nb f
 ⟨s.out ++ i1 f i s.depth ++ i2 w3 ++ i3 w3 i s.last g ++ i4 w3 i s.last g ++ i5 w3 i s.last g ++ i6 w3 i s.last g ++ i7 nb w3 i s.last g ++ usesI w2 f ++ i9 f g ++ i10 f (d1 f s.depth), d2 f (d1 f s.depth), g⟩
def stI (w3 w2 : Int) (x : PD) : Nat → SI
 | 0 => ⟨headI2, 1, fd0⟩
 | i + 1 => match x.fields[i]? with
  | none => stI w3 w2 x i
  | some f => stepI w3 w2 x.numbers i (stI w3 w2 x i) f
def lenD (x : PD) : Nat := min x.fields.length 20
def itemsS (way : Int) (x : PD) : List It := (stI (way % 3) (way / 3 % 2) x (lenD x)).out ++ List.replicate (stI (way % 3) (way / 3 % 2) x (lenD x)).depth endI
structure SM where
 fields : List Fd
 colls : List Co
 opens : List Int
def stepM (nb : Bool) (i : Nat) (s : SM) (f : PF) : SM :=
 let b := beginsB f s.opens.length
 let colls := if b then s.colls ++ [⟨((i % 4 : Nat) : Int), 458752 + (i : Int), s.opens.headD (-1)⟩] else s.colls
 let opens := if b then (s.colls.length : Int) :: s.opens else s.opens
 let g := fdS nb f
 ⟨s.fields ++ [{ g with parent := opens.headD (-1), pos := bitsS s.fields g.kind g.report }], colls, if endsB f opens.length then opens.tail else opens⟩
def stM (x : PD) : Nat → SM
 | 0 => ⟨[], [⟨1, 65542, -1⟩], [0]⟩
 | i + 1 => match x.fields[i]? with
  | none => stM x i
  | some f => stepM x.numbers i (stM x i) f
def Run (l : List It) (s t : RS) : Prop := runS l s = (0, t)
theorem Run.nil (s : RS) : Run [] s s := rfl
theorem Run.app {l m : List It} : ∀ {s t u : RS}, Run l s t → Run m t u → Run (l ++ m) s u := by
 induction l with
 | nil =>
  intro s t u h k
  have e : s = t := by have := congrArg Prod.snd h; exact this
  subst e
  exact k
 | cons y l ih =>
  intro s t u h k
  unfold Run runS at h
  rw [List.cons_append]
  unfold Run runS
  by_cases he : (effS s y).1 ≠ 0
  ·rw [if_pos he] at h
   have := congrArg Prod.fst h
   exact absurd this he
  ·rw [if_neg he] at h ⊢
   exact ih h k
theorem Run.one {x : It} {s t : RS} (h : effS s x = (0, t)) : Run [x] s (clearS t x) := by
 unfold Run runS
 rw [h]
 rfl
theorem Run.if_ {b : Bool} {l : List It} {s t : RS} (h : b = true → Run l s t) (h2 : b = false → s = t) : Run (if b then l else []) s t := by
 cases b with
 | true => exact h rfl
 | false => rw [← h2 rfl]; exact Run.nil s
theorem itemZ_u {n : Int} (h0 : 0 ≤ n) (h1 : n < 4294967296) : n % 256 ^ itemZ n false = n := by
 unfold itemZ
 by_cases c1 : 65535 < n
 ·simp only [Bool.false_and, Bool.not_false, Bool.true_and, Bool.false_or, c1, decide_true, if_true]
  omega
 ·by_cases c2 : 255 < n
  ·simp only [Bool.false_and, Bool.not_false, Bool.true_and, Bool.false_or, c1, c2, decide_true, decide_false, if_true, Bool.false_eq_true, if_false]
   omega
  ·simp only [Bool.false_and, Bool.not_false, Bool.true_and, Bool.false_or, c1, c2, decide_false, Bool.false_eq_true, if_false]
   omega
theorem itemS_u {t g n : Int} (h0 : 0 ≤ n) (h1 : n < 4294967296) : itemS t g n false = ⟨t, g, itemZ n false, n⟩ := by
 unfold itemS
 rw [itemZ_u h0 h1]
theorem sign_s {t g n : Int} (h0 : -2147483648 ≤ n) (h1 : n ≤ 2147483647) : signS (itemS t g n true) = n := by
 unfold signS itemS itemZ
 by_cases c1 : n < -32768 ∨ 32767 < n
 ·have e : (decide (n < -32768) || decide (32767 < n)) = true := by simpa using c1
  simp only [Bool.true_and, e, Bool.not_true, Bool.false_and, Bool.or_false, if_true]
  rw [if_neg (by decide), if_neg (by decide), if_pos (by decide)]
  split <;> omega
 ·have e : (decide (n < -32768) || decide (32767 < n)) = false := by simp; omega
  by_cases c2 : n < -128 ∨ 127 < n
  ·have e2 : (decide (n < -128) || decide (127 < n)) = true := by simpa using c2
   simp only [Bool.true_and, e, e2, Bool.not_true, Bool.false_and, Bool.or_false, if_true, Bool.false_eq_true, if_false]
   rw [if_neg (by decide), if_pos (by decide)]
   split <;> omega
  ·have e2 : (decide (n < -128) || decide (127 < n)) = false := by simp; omega
   simp only [Bool.true_and, e, e2, Bool.not_true, Bool.false_and, Bool.or_false, Bool.false_eq_true, if_false]
   rw [if_pos (by decide)]
   split <;> omega
theorem usage_s {t g n : Int} {s : RS} (h0 : 0 ≤ n) (h1 : n ≤ 65535) : usageS s (itemS t g n false) = s.g.page * 65536 + n := by
 rw [itemS_u h0 (by omega)]
 unfold usageS
 have : itemZ n false ≠ 4 := by
  unfold itemZ
  rw [if_neg (by simp; omega)]
  split <;> decide
 rw [if_neg (by simp only; omega)]
section
variable {s : RS} {n : Int}
theorem run_page (h0 : 0 ≤ n) (h1 : n ≤ 65535) : Run [itemS 1 0 n false] s { s with g := { s.g with page := n } } := by
 rw [itemS_u h0 (by omega)]
 exact Run.one (by unfold effS; simp only [if_neg (show ¬ (1 : Int) = 0 by decide), if_true]; rw [if_neg (by omega)])
theorem run_lo (h0 : -2147483648 ≤ n) (h1 : n ≤ 2147483647) : Run [itemS 1 1 n true] s { s with g := { s.g with lo := n } } := by
 have h := sign_s (t := 1) (g := 1) h0 h1
 refine Run.one (t := { s with g := { s.g with lo := n } }) ?_
 conv => rhs; rw [← h]
 rfl
theorem run_hi (h0 : -2147483648 ≤ n) (h1 : n ≤ 2147483647) : Run [itemS 1 2 n true] s { s with g := { s.g with hi := n } } := by
 have h := sign_s (t := 1) (g := 2) h0 h1
 refine Run.one (t := { s with g := { s.g with hi := n } }) ?_
 conv => rhs; rw [← h]
 rfl
theorem run_size (h0 : 0 ≤ n) (h1 : n < 4294967296) : Run [itemS 1 7 n false] s { s with g := { s.g with size := n } } := by
 rw [itemS_u h0 h1]
 exact Run.one (t := { s with g := { s.g with size := n } }) rfl
theorem run_count (h0 : 0 ≤ n) (h1 : n < 4294967296) : Run [itemS 1 9 n false] s { s with g := { s.g with count := n } } := by
 rw [itemS_u h0 h1]
 exact Run.one (t := { s with g := { s.g with count := n } }) rfl
theorem run_report (h0 : 1 ≤ n) (h1 : n ≤ 255) : Run [itemS 1 8 n false] s { s with g := { s.g with report := n }, numbered := true } := by
 rw [itemS_u (by omega) (by omega)]
 refine Run.one (t := { s with g := { s.g with report := n }, numbered := true }) ?_
 show (if n < 1 ∨ 255 < n then _ else _) = _
 rw [if_neg (by omega)]
theorem run_push (h : s.stack = []) : Run [itemS 1 10 0 false] s { s with stack := [s.g] } := by
 rw [itemS_u (by omega) (by omega)]
 refine Run.one (t := { s with stack := [s.g] }) ?_
 show (if 8 ≤ s.stack.length then _ else _) = _
 rw [h, if_neg (by decide)]
 rfl
theorem run_pop {g : Gl} (h : s.stack = [g]) : Run [itemS 1 11 0 false] s { s with g := g, stack := [] } := by
 rw [itemS_u (by omega) (by omega)]
 refine Run.one (t := { s with g := g, stack := [] }) ?_
 simp [effS, h]
theorem run_between (h : s.stack = []) : Run betweenI s s := by
 have h1 := (run_push h).app ((run_page (n := 9) (by omega) (by omega)).app ((run_lo (n := -5) (by omega) (by omega)).app ((run_size (n := 9) (by omega) (by omega)).app (run_pop (g := s.g) rfl))))
 have e : ({ s with stack := [] } : RS) = s := by rw [← h]
 rw [← e]
 conv => arg 2; rw [e]
 exact h1
theorem run_usage (h0 : 0 ≤ n) (h1 : n ≤ 65535) (h : s.usages.length < 512) : Run [itemS 2 0 n false] s { s with usages := s.usages ++ [s.g.page * 65536 + n] } := by
 have hu := usage_s (t := 2) (g := 0) (s := s) h0 h1
 refine Run.one (t := { s with usages := s.usages ++ [s.g.page * 65536 + n] }) ?_
 show addS s (usageS s (itemS 2 0 n false)) (usageS s (itemS 2 0 n false)) = _
 rw [hu]
 unfold addS
 rw [if_neg (by omega)]
 congr 2
 rw [show (s.g.page * 65536 + n - (s.g.page * 65536 + n) + 1).toNat = 1 by omega]
 simp
theorem run_usages (h0 : 0 ≤ n) : ∀ (m : Nat) (s : RS), n + m ≤ 65536 → s.usages.length + m ≤ 512 → Run ((List.range m).map fun (k : Nat) => itemS 2 0 (n + (k : Int)) false) s { s with usages := s.usages ++ (List.range m).map fun (k : Nat) => s.g.page * 65536 + n + (k : Int) }
 | 0, s, _, _ => by
  have e : ({ s with usages := s.usages ++ (List.range 0).map fun (k : Nat) => s.g.page * 65536 + n + (k : Int) } : RS) = s := by simp
  rw [e]
  exact Run.nil s
 | m + 1, s, hn, hl => by
  have h1 := run_usages h0 m s (by omega) (by omega)
  rw [List.range_succ, List.map_append, List.map_append]
  have h2 := run_usage (s := { s with usages := s.usages ++ (List.range m).map fun (k : Nat) => s.g.page * 65536 + n + (k : Int) }) (n := n + m) (by omega) (by omega) (by simp; omega)
  have h3 := h1.app h2
  simp only [List.append_assoc] at h3
  have e : s.g.page * 65536 + (n + (m : Int)) = s.g.page * 65536 + n + (m : Int) := by omega
  rw [e] at h3
  exact h3
theorem run_range {m : Nat} (h0 : 0 ≤ n) (h1 : n + m ≤ 65535) (hp : 0 ≤ s.g.page) (h : s.usages.length + m + 1 ≤ 512) : Run [itemS 2 1 n false, itemS 2 2 (n + m) false] s { s with usages := s.usages ++ (List.range (m + 1)).map fun (k : Nat) => s.g.page * 65536 + n + (k : Int), kept := s.g.page * 65536 + n, keeps := false } := by
 have hu := usage_s (t := 2) (g := 1) (s := s) h0 (show n ≤ 65535 by omega)
 have e1 : Run [itemS 2 1 n false] s { s with kept := s.g.page * 65536 + n, keeps := true } := by
  refine Run.one (t := { s with kept := s.g.page * 65536 + n, keeps := true }) ?_
  show ((0 : Int), { s with kept := usageS s (itemS 2 1 n false), keeps := true }) = _
  rw [hu]
 have hv := usage_s (t := 2) (g := 2) (s := { s with kept := s.g.page * 65536 + n, keeps := true }) (show 0 ≤ n + m by omega) h1
 refine Run.app (l := [itemS 2 1 n false]) e1 (Run.one (t := { s with usages := s.usages ++ (List.range (m + 1)).map fun (k : Nat) => s.g.page * 65536 + n + (k : Int), kept := s.g.page * 65536 + n, keeps := false }) ?_)
 show (if true = false ∨ usageS { s with kept := s.g.page * 65536 + n, keeps := true } (itemS 2 2 (n + m) false) / 65536 ≠ (s.g.page * 65536 + n) / 65536 ∨ usageS { s with kept := s.g.page * 65536 + n, keeps := true } (itemS 2 2 (n + m) false) < s.g.page * 65536 + n then _ else addS { s with kept := s.g.page * 65536 + n, keeps := false } (s.g.page * 65536 + n) (usageS { s with kept := s.g.page * 65536 + n, keeps := true } (itemS 2 2 (n + m) false))) = _
 rw [hv]
 show (if true = false ∨ (s.g.page * 65536 + (n + m)) / 65536 ≠ (s.g.page * 65536 + n) / 65536 ∨ s.g.page * 65536 + (n + m) < s.g.page * 65536 + n then _ else _) = _
 rw [if_neg (by simp; omega)]
 unfold addS
 rw [if_neg (by simp only; omega)]
 rw [show (s.g.page * 65536 + (n + (m : Int)) - (s.g.page * 65536 + n) + 1).toNat = m + 1 by omega]
theorem run_begin {u : Int} (h0 : 0 ≤ n) (h1 : n < 256) (hu : s.usages = [u]) (hc : s.colls.length < 64) : Run [itemS 0 10 n false] s { s with opn := s.colls.length, colls := s.colls ++ [⟨n, u, s.opn⟩], usages := [], keeps := false } := by
 rw [itemS_u h0 (by omega)]
 refine Run.one (t := { s with opn := s.colls.length, colls := s.colls ++ [⟨n, u, s.opn⟩] }) ?_
 show (if 64 ≤ s.colls.length then _ else _) = _
 rw [if_neg (by omega)]
 show ((0 : Int), ({ s with opn := (s.colls.length : Int), colls := s.colls ++ [⟨n % 256, s.usages.headD 0, s.opn⟩] } : RS)) = _
 rw [hu, show n % 256 = n by omega]
 rfl
end
def Chain (c : List Co) : List Int → Prop
 | [] => True
 | a :: l => 0 ≤ a ∧ (∃ co, c[a.toNat]? = some co ∧ co.parent = l.headD (-1)) ∧ Chain c l
theorem chain_more {c : List Co} {x : Co} : ∀ (l : List Int), Chain c l → Chain (c ++ [x]) l
 | [], _ => trivial
 | a :: l, h => by
  obtain ⟨h0, ⟨co, h1, h2⟩, h3⟩ := h
  exact ⟨h0, ⟨co, by rw [List.getElem?_append_left (List.getElem?_eq_some_iff.1 h1).1]; exact h1, h2⟩, chain_more l h3⟩
theorem run_end {s : RS} {a : Int} {l : List Int} (ha : s.opn = a) (hc : Chain s.colls (a :: l)) : Run [endI] s { s with opn := l.headD (-1), usages := [], keeps := false } := by
 obtain ⟨h0, ⟨co, h1, h2⟩, _⟩ := hc
 unfold endI
 rw [itemS_u (by omega) (by omega)]
 refine Run.one (t := { s with opn := l.headD (-1) }) ?_
 have e : effS s ⟨0, 12, (itemZ 0 false : Nat), 0⟩ = (if s.opn < 0 then (4, s) else (0, { s with opn := ((s.colls[s.opn.toNat]?).map Co.parent).getD (-1) })) := rfl
 rw [e, if_neg (by omega), ha, h1, ← h2]
 rfl
theorem run_ends : ∀ (l : List Int) (s : RS), s.opn = l.headD (-1) → Chain s.colls l → s.usages = [] → s.keeps = false → Run (List.replicate l.length endI) s { s with opn := -1 }
 | [], s, h, _, _, _ => by
  have h' : s.opn = -1 := h
  have e : ({ s with opn := -1 } : RS) = s := by rw [← h']
  rw [e]
  exact Run.nil s
 | a :: l, s, h, hc, hu, hk => by
  have h1 := run_end h hc
  have h2 := run_ends l { s with opn := l.headD (-1), usages := [], keeps := false } rfl hc.2.2 rfl rfl
  have h3 := h1.app h2
  have e : ({ { s with opn := l.headD (-1), usages := [], keeps := false } with opn := -1 } : RS) = { s with opn := -1 } := by
   show ({ s with opn := -1, usages := [], keeps := false } : RS) = _
   rw [← hu, ← hk]
  rw [e] at h3
  exact h3
theorem szF_ok {lo hi : Int} (h18 : badSz lo hi 18 = false) : ∀ (k n : Nat), n ≤ 18 → 19 ≤ n + k → badSz lo hi (szF k lo hi n) = false ∧ n ≤ szF k lo hi n ∧ szF k lo hi n ≤ 18
 | 0, n, h1, h2 => by omega
 | k + 1, n, h1, h2 => by
  unfold szF
  by_cases hb : badSz lo hi n = true
  ·rw [if_pos hb]
   have hn : n ≠ 18 := fun e => by rw [e, h18] at hb; cases hb
   obtain ⟨g1, g2, g3⟩ := szF_ok h18 k (n + 1) (by omega) (by omega)
   exact ⟨g1, by omega, g3⟩
  ·rw [if_neg hb]
   exact ⟨by simpa using hb, Nat.le_refl _, h1⟩
theorem sizeF_ok {f : PF} (h : f.ok) : badSz f.lo (f.lo + f.more) (sizeF f.lo (f.lo + f.more)) = false ∧ 1 ≤ sizeF f.lo (f.lo + f.more) ∧ sizeF f.lo (f.lo + f.more) ≤ 18 := by
 obtain ⟨_, _, _, _, h5, h6, _⟩ := h
 refine szF_ok ?_ 20 1 (by omega) (by omega)
 unfold badSz
 simp only [Bool.or_eq_false_iff, Bool.and_eq_false_iff, decide_eq_false_iff_not]
 omega
theorem fits_of {f : PF} (h : f.ok) : fitsS f.lo (f.lo + f.more) (sizeF f.lo (f.lo + f.more)) = true := by
 obtain ⟨h1, h2, h3⟩ := sizeF_ok h
 obtain ⟨_, _, _, _, h5, h6, _⟩ := h
 unfold badSz at h1
 generalize sizeF f.lo (f.lo + f.more) = n at h1 h2 h3 ⊢
 simp only [Bool.or_eq_false_iff, Bool.and_eq_false_iff, decide_eq_false_iff_not] at h1
 unfold fitsS
 by_cases hl : f.lo < 0
 ·rw [if_pos hl]
  simp only [Bool.and_eq_true, decide_eq_true_eq]
  rcases h1.2 with h7 | h7
  ·exact absurd hl h7
  ·omega
 ·rw [if_neg hl]
  simp only [Bool.and_eq_true, decide_eq_true_eq]
  omega
theorem fd_kind {nb : Bool} {f : PF} (h : f.ok) : (fdS nb f).kind = 1 ∨ (fdS nb f).kind = 2 ∨ (fdS nb f).kind = 3 := by
 show 1 + f.kind % 3 = 1 ∨ 1 + f.kind % 3 = 2 ∨ 1 + f.kind % 3 = 3
 omega
theorem bits_le108 : ∀ {l : List Fd}, (∀ f ∈ l, 0 ≤ f.size * f.count ∧ f.size * f.count ≤ 108) → ∀ k r, bitsS l k r ≤ 108 * (l.length : Int)
 | [], _, k, r => by simp [bitsS]
 | f :: l, h, k, r => by
  have h1 := bits_le108 (fun g hg => h g (List.mem_cons_of_mem _ hg)) k r
  have h2 := h f List.mem_cons_self
  have h3 : bitsS (f :: l) k r = (if f.kind == k && f.report == r then f.size * f.count else 0) + bitsS l k r := by
   unfold bitsS
   rw [List.filter_cons]
   split <;> simp
  rw [h3, List.length_cons]
  split <;> omega
structure InvT (x : PD) (i : Nat) (st : SI) (m : SM) (s : RS) : Prop where
 page : s.g.page = 7
 stack : s.stack = []
 us : s.usages = []
 kp : s.keeps = false
 fields : s.fields = m.fields
 colls : s.colls = m.colls
 opn : s.opn = m.opens.headD (-1)
 depth : st.depth = m.opens.length
 chain : Chain m.colls m.opens
 pos : m.opens ≠ []
 le : m.opens.length ≤ 5
 last : 0 < i → s.g.lo = st.last.lo ∧ s.g.hi = st.last.hi ∧ s.g.size = st.last.size ∧ s.g.count = st.last.count ∧ (x.numbers = true → s.g.report = st.last.report)
 rep : x.numbers = false → s.g.report = 0
 nb : s.numbered = (x.numbers && decide (0 < i))
 nf : m.fields.length ≤ i
 small : ∀ f ∈ m.fields, 0 ≤ f.size * f.count ∧ f.size * f.count ≤ 108
 nz : x.numbers = true → ∀ f ∈ m.fields, f.report ≠ 0
 nc : m.colls.length ≤ i + 1
theorem invT0 (x : PD) : ∃ s, Run headI2 rs0 s ∧ InvT x 0 ⟨headI2, 1, fd0⟩ ⟨[], [⟨1, 65542, -1⟩], [0]⟩ s := by
 have h1 := run_page (s := rs0) (n := 1) (by omega) (by omega)
 have h2 := run_usage (s := { rs0 with g := { rs0.g with page := 1 } }) (n := 6) (by omega) (by omega) (by decide)
 have h3 := run_begin (s := { rs0 with g := { rs0.g with page := 1 }, usages := [65542] }) (u := 65542) (n := 1) (by omega) (by omega) rfl (by decide)
 have h4 := run_page (s := { rs0 with g := { rs0.g with page := 1 }, opn := 0, colls := [⟨1, 65542, -1⟩], usages := [], keeps := false }) (n := 7) (by omega) (by omega)
 refine ⟨_, h1.app (h2.app (h3.app h4)), ?_⟩
 refine ⟨rfl, rfl, rfl, rfl, rfl, rfl, rfl, rfl, ⟨by omega, ⟨_, rfl, rfl⟩, trivial⟩, by simp, by decide, fun h => absurd h (by omega), fun _ => rfl, by simp [rs0], by decide, fun f hf => (by cases hf), fun _ f hf => (by cases hf), by decide⟩
section
variable {x : PD} {i : Nat} {st : SI} {m : SM} {s : RS} {f : PF} {w3 w2 : Int}
theorem ask_no {a b : Int} {w3 : Int} {i : Nat} (h : ask w3 i a b = false) : 0 < i ∧ a = b := by
 unfold ask at h
 simp only [Bool.or_eq_false_iff, decide_eq_false_iff_not, Bool.not_eq_false', beq_iff_eq] at h
 exact ⟨by omega, h.2.2⟩
theorem run_i1 (h : InvT x i st m s) (hi : i < 20) : ∃ s1, Run (i1 f i st.depth) s s1 ∧ s1.g = s.g ∧ s1.stack = [] ∧ s1.usages = [] ∧ s1.keeps = false ∧ s1.fields = m.fields ∧ s1.numbered = s.numbered ∧
  s1.colls = (if beginsB f m.opens.length then m.colls ++ [⟨((i % 4 : Nat) : Int), 458752 + (i : Int), m.opens.headD (-1)⟩] else m.colls) ∧ s1.opn = (if beginsB f m.opens.length then (m.colls.length : Int) :: m.opens else m.opens).headD (-1) ∧
  Chain s1.colls (if beginsB f m.opens.length then (m.colls.length : Int) :: m.opens else m.opens) := by
 unfold i1
 rw [h.depth]
 cases hb : beginsB f m.opens.length with
 | false => exact ⟨s, Run.nil s, rfl, h.stack, h.us, h.kp, h.fields, rfl, h.colls, h.opn, by rw [h.colls]; exact h.chain⟩
 | true =>
  have h1 := run_usage (s := s) (n := (i : Int)) (by omega) (by omega) (by rw [h.us]; decide)
  have h2 := run_begin (s := { s with usages := s.usages ++ [s.g.page * 65536 + (i : Int)] }) (u := 458752 + (i : Int)) (n := ((i % 4 : Nat) : Int)) (by omega) (by omega) (by rw [h.us, h.page]; rfl) (by have := h.nc; rw [show s.colls.length = m.colls.length by rw [h.colls]]; omega)
  refine ⟨_, h1.app h2, rfl, h.stack, rfl, rfl, h.fields, rfl, ?_, ?_, ?_⟩
  ·show s.colls ++ [⟨_, _, s.opn⟩] = _
   rw [h.colls, h.opn]; rfl
  ·show (s.colls.length : Int) = _
   rw [h.colls]; rfl
  ·show Chain (s.colls ++ [⟨_, _, s.opn⟩]) ((m.colls.length : Int) :: m.opens)
   rw [h.colls, h.opn]
   refine ⟨by omega, ⟨⟨((i % 4 : Nat) : Int), 458752 + (i : Int), m.opens.headD (-1)⟩, ?_, rfl⟩, chain_more _ h.chain⟩
   rw [Int.toNat_natCast, List.getElem?_append_right (Nat.le_refl _), Nat.sub_self]
   rfl
theorem run_uses {s : RS} (hf : f.ok) (hp : s.g.page = 7) (hu : s.usages = []) (hk : s.keeps = false) : ∃ kp, Run (usesI w2 f) s { s with usages := usagesF f, kept := kp } := by
 obtain ⟨_, _, ⟨h3, h3'⟩, ⟨h4, h4'⟩, _⟩ := hf
 have hm : manyF f ≤ 6 := by unfold manyF; omega
 have hm1 : 1 ≤ manyF f := by unfold manyF; omega
 unfold usesI
 by_cases hw : w2 = 0
 ·rw [if_pos hw]
  have h := run_range (s := s) (n := f.first) (m := manyF f - 1) h3 (by omega) (by omega) (by rw [hu]; simp only [List.length_nil]; omega)
  refine ⟨s.g.page * 65536 + f.first, ?_⟩
  rw [hu, hp, Nat.sub_add_cancel hm1] at h
  have e : ({ s with usages := usagesF f, kept := s.g.page * 65536 + f.first } : RS) = { s with usages := [] ++ (List.range (manyF f)).map fun (k : Nat) => 7 * 65536 + f.first + (k : Int), kept := 7 * 65536 + f.first, keeps := false } := by
   rw [hp, ← hk]; rfl
  rw [e]
  exact h
 ·rw [if_neg hw]
  have h := run_usages h3 (manyF f) s (by omega) (by rw [hu]; simp only [List.length_nil]; omega)
  refine ⟨s.kept, ?_⟩
  rw [hu, hp] at h
  exact h
theorem run_main {s : RS} (hf : f.ok) (hi : i < 20) (ho : 0 ≤ s.opn) (hg : s.g.lo = (fdS x.numbers f).lo ∧ s.g.hi = (fdS x.numbers f).hi ∧ s.g.size = (fdS x.numbers f).size ∧ s.g.count = (fdS x.numbers f).count ∧ s.g.report = (fdS x.numbers f).report) (hu : s.usages = usagesF f) (hs : ∀ g ∈ s.fields, 0 ≤ g.size * g.count ∧ g.size * g.count ≤ 108) (hn : s.fields.length ≤ i) :
  Run (i9 f (fdS x.numbers f)) s { s with fields := s.fields ++ [{ fdS x.numbers f with parent := s.opn, pos := bitsS s.fields (fdS x.numbers f).kind (fdS x.numbers f).report }], usages := [], keeps := false } := by
 obtain ⟨g1, g2, g3, g4, g5⟩ := hg
 have hk := fd_kind (nb := x.numbers) hf
 obtain ⟨z1, z2, z3⟩ := sizeF_ok hf
 have hfit := fits_of hf
 have hfl := hf.2.2.2.2.2.2.2
 have hct := hf.2.2.2.2.2.2.1
 unfold u8k at hfl hct
 have hr : (fdS x.numbers f).report % 256 = (fdS x.numbers f).report := by
  show (if x.numbers then 1 + f.report % 3 else 0 : Int) % 256 = _
  split <;> simp only [fdS, *] <;> simp <;> omega
 have hsz : (fdS x.numbers f).size = (sizeF f.lo (f.lo + f.more) : Int) := rfl
 have hcn : (fdS x.numbers f).count = 1 + f.count % 6 := rfl
 unfold i9
 have hdata : (itemS 0 (tagF (fdS x.numbers f).kind) (f.flags % 8) false).data = f.flags % 8 := itemZ_u (by omega) (by omega)
 have heff : effS s (itemS 0 (tagF (fdS x.numbers f).kind) (f.flags % 8) false) = fieldS s (fdS x.numbers f).kind (itemS 0 (tagF (fdS x.numbers f).kind) (f.flags % 8) false) := by
  rcases hk with e | e | e <;> rw [e] <;> rfl
 have hb := bits_le108 hs (fdS x.numbers f).kind (s.g.report % 256)
 have hbl : bitsS s.fields (fdS x.numbers f).kind (s.g.report % 256) + s.g.size * s.g.count ≤ 4096 := by
  have h1 : s.g.size * s.g.count ≤ 18 * 6 := by
   rw [g3, g4, hsz, hcn]
   exact Int.mul_le_mul (by omega) (by omega) (by omega) (by omega)
  have h2 : (s.fields.length : Int) ≤ 20 := by omega
  omega
 refine Run.one (t := { s with fields := s.fields ++ [{ fdS x.numbers f with parent := s.opn, pos := bitsS s.fields (fdS x.numbers f).kind (fdS x.numbers f).report }] }) ?_
 rw [heff]
 unfold fieldS
 rw [if_neg (by omega), if_neg (by rw [g3, g4, hsz, hcn] at *; omega)]
 rw [if_neg (by
  rintro ⟨_, h⟩
  rcases h with h | h
  ·rw [g1, g2, g3] at h
   have h2 : fitsS f.lo (f.lo + f.more) (sizeF f.lo (f.lo + f.more)) = false := h
   rw [hfit] at h2; cases h2
  ·rw [hu] at h
   unfold usagesF manyF at h
   simp at h)]
 congr 3
 unfold fieldOf
 rw [hdata, g1, g2, g3, g4, g5, hr, hu]
 have e1 : (f.flags % 8 % 2 == 1) = (f.flags % 2 == 1) := by congr 1; omega
 have e2 : (f.flags % 8 / 2 % 2 == 0) = (f.flags / 2 % 2 == 0) := by congr 1; omega
 have e3 : (f.flags % 8 / 4 % 2 == 1) = (f.flags / 4 % 2 == 1) := by congr 1; omega
 rw [e1, e2, e3]
 rfl
theorem invT_step (h : InvT x i st m s) (hi : i < 20) (hf : f.ok) (hr0 : Run st.out rs0 s) : ∃ s', Run (stepI w3 w2 x.numbers i st f).out rs0 s' ∧ InvT x (i + 1) (stepI w3 w2 x.numbers i st f) (stepM x.numbers i m f) s' := by
 obtain ⟨s1, r1, a1, a2, a3, a4, a5, a6, a7, a8, a9⟩ := run_i1 (f := f) h hi
 have hl := h.last
 have hF := hf
 obtain ⟨_, _, _, _, hlo, hmo, hct, hfl⟩ := hF
 have hz := sizeF_ok hf
 obtain ⟨F, hFd⟩ : ∃ F, fdS x.numbers f = F := ⟨_, rfl⟩
 have e_lo : F.lo = f.lo := by rw [← hFd]; rfl
 have e_hi : F.hi = f.lo + f.more := by rw [← hFd]; rfl
 have e_sz : F.size = (sizeF f.lo (f.lo + f.more) : Int) := by rw [← hFd]; rfl
 have e_ct : F.count = 1 + f.count % 6 := by rw [← hFd]; rfl
 have e_rp : F.report = (if x.numbers then 1 + f.report % 3 else 0) := by rw [← hFd]; rfl
 unfold u8k at hct
 have r2 : Run (i2 w3) s1 s1 := by
  unfold i2
  split
  ·exact run_between a2
  ·exact Run.nil _
 have r3 : Run (i3 w3 i st.last F) s1 { s1 with g := { s1.g with lo := F.lo } } := Run.if_ (fun _ => run_lo (by omega) (by omega)) (fun hb => by
  obtain ⟨h1, h2⟩ := ask_no hb
  rw [← h2, ← (hl h1).1, ← a1])
 have r4 : Run (i4 w3 i st.last F) { s1 with g := { s1.g with lo := F.lo } } { s1 with g := { s1.g with lo := F.lo, hi := F.hi } } := Run.if_ (fun _ => run_hi (by omega) (by omega)) (fun hb => by
  obtain ⟨h1, h2⟩ := ask_no hb
  rw [← h2, ← (hl h1).2.1, ← a1])
 have r5 : Run (i5 w3 i st.last F) { s1 with g := { s1.g with lo := F.lo, hi := F.hi } } { s1 with g := { s1.g with lo := F.lo, hi := F.hi, size := F.size } } := Run.if_ (fun _ => run_size (by omega) (by omega)) (fun hb => by
  obtain ⟨h1, h2⟩ := ask_no hb
  rw [← h2, ← (hl h1).2.2.1, ← a1])
 have r6 : Run (i6 w3 i st.last F) { s1 with g := { s1.g with lo := F.lo, hi := F.hi, size := F.size } } { s1 with g := { s1.g with lo := F.lo, hi := F.hi, size := F.size, count := F.count } } := Run.if_ (fun _ => run_count (by omega) (by omega)) (fun hb => by
  obtain ⟨h1, h2⟩ := ask_no hb
  rw [← h2, ← (hl h1).2.2.2.1, ← a1])
 have r7 : Run (i7 x.numbers w3 i st.last F) { s1 with g := { s1.g with lo := F.lo, hi := F.hi, size := F.size, count := F.count } } { s1 with g := { s1.g with lo := F.lo, hi := F.hi, size := F.size, count := F.count, report := F.report }, numbered := x.numbers } := by
  unfold i7
  cases hn : x.numbers with
  | false =>
   rw [hn] at e_rp
   have e1 := h.rep hn
   have e2 := h.nb
   rw [hn] at e2
   rw [← a1] at e1
   rw [← a6] at e2
   have e3 : F.report = 0 := e_rp
   refine Run.if_ (fun hb => by cases hb) (fun _ => ?_)
   rw [e3, ← e1, show false = s1.numbered from e2.symm ▸ rfl]
  | true =>
   rw [hn] at e_rp
   simp only [if_true] at e_rp
   refine Run.if_ (fun _ => run_report (by omega) (by omega)) (fun hb => ?_)
   obtain ⟨h1, h2⟩ := ask_no (by simpa using hb)
   have e2 := h.nb
   rw [hn, ← a6] at e2
   have e3 : s1.numbered = true := by rw [e2]; simpa using h1
   rw [← h2, ← (hl h1).2.2.2.2 hn, ← a1, ← e3]
 obtain ⟨kp, r8⟩ := run_uses (w2 := w2) (s := { s1 with g := { s1.g with lo := F.lo, hi := F.hi, size := F.size, count := F.count, report := F.report }, numbered := x.numbers }) hf (by show s1.g.page = 7; rw [a1]; exact h.page) a3 a4
 obtain ⟨op, hop⟩ : ∃ op, (if beginsB f m.opens.length then (m.colls.length : Int) :: m.opens else m.opens) = op := ⟨_, rfl⟩
 have hop0 : op ≠ [] := by
  rw [← hop]
  split
  ·simp
  ·exact h.pos
 have hople : op.length ≤ 5 := by
  rw [← hop]
  split
  ·rename_i hb
   unfold beginsB at hb
   simp only [Bool.and_eq_true, decide_eq_true_eq] at hb
   simp only [List.length_cons]
   omega
  ·exact h.le
 rw [hop] at a8 a9
 have hopn : 0 ≤ s1.opn := by
  rw [a8]
  cases op with
  | nil => exact absurd rfl hop0
  | cons a l => exact a9.1
 have r9 := run_main (x := x) (i := i) (s := { s1 with g := { s1.g with lo := F.lo, hi := F.hi, size := F.size, count := F.count, report := F.report }, numbered := x.numbers, usages := usagesF f, kept := kp }) hf hi hopn (by rw [hFd]; exact ⟨rfl, rfl, rfl, rfl, rfl⟩) rfl (by rw [show ({ s1 with g := { s1.g with lo := F.lo, hi := F.hi, size := F.size, count := F.count, report := F.report }, numbered := x.numbers, usages := usagesF f, kept := kp } : RS).fields = m.fields from a5]; exact h.small) (by show s1.fields.length ≤ i; rw [a5]; exact h.nf)
 rw [hFd] at r9
 have hd1 : d1 f st.depth = op.length := by
  unfold d1
  rw [h.depth, ← hop]
  split <;> simp
 have hlast : (0 : Nat) < i + 1 := Nat.succ_pos i
 have hall := r1.app (r2.app (r3.app (r4.app (r5.app (r6.app (r7.app (r8.app r9)))))))
 have hsm : 0 ≤ F.size * F.count ∧ F.size * F.count ≤ 108 := by
  rw [e_sz, e_ct]
  refine ⟨Int.mul_nonneg (by omega) (by omega), ?_⟩
  have h5 := Int.mul_le_mul (show (sizeF f.lo (f.lo + f.more) : Int) ≤ 18 by omega) (show 1 + f.count % 6 ≤ 6 by omega) (by omega) (by omega)
  exact Int.le_trans h5 (by decide)
 have hout : (stepI w3 w2 x.numbers i st f).out = st.out ++ ((i1 f i st.depth ++ (i2 w3 ++ (i3 w3 i st.last F ++ (i4 w3 i st.last F ++ (i5 w3 i st.last F ++ (i6 w3 i st.last F ++ (i7 x.numbers w3 i st.last F ++ (usesI w2 f ++ i9 f F)))))))) ++ i10 f op.length) := by
  unfold stepI
  simp only [hFd, hd1, List.append_assoc]
 have hbase : ∀ (o2 : List Int) (tM : RS), tM.g = { s1.g with lo := F.lo, hi := F.hi, size := F.size, count := F.count, report := F.report } → tM.stack = [] → tM.usages = [] → tM.keeps = false → tM.fields = m.fields ++ [{ F with parent := op.headD (-1), pos := bitsS m.fields F.kind F.report }] → tM.colls = s1.colls → tM.numbered = x.numbers → tM.opn = o2.headD (-1) →
   (stepM x.numbers i m f).opens = o2 → (stepI w3 w2 x.numbers i st f).depth = o2.length → Chain s1.colls o2 → o2 ≠ [] → o2.length ≤ 5 → InvT x (i + 1) (stepI w3 w2 x.numbers i st f) (stepM x.numbers i m f) tM := by
  intro o2 tM b1 b2 b3 b4 b5 b6 b7 b8 b9 b10 b11 b12 b13
  have hM : (stepM x.numbers i m f).fields = m.fields ++ [{ F with parent := op.headD (-1), pos := bitsS m.fields F.kind F.report }] := by
   unfold stepM
   simp only [hFd, hop]
  have hC : (stepM x.numbers i m f).colls = s1.colls := by
   unfold stepM
   rw [a7]
  refine ⟨by rw [b1]; show s1.g.page = 7; rw [a1]; exact h.page, b2, b3, b4, by rw [b5, hM], by rw [b6, hC], by rw [b8, b9], by rw [b10, b9], by rw [hC, b9]; exact b11, by rw [b9]; exact b12, by rw [b9]; exact b13, fun _ => ?_, fun hn => ?_, ?_, ?_, ?_, ?_, ?_⟩
  ·have e : (stepI w3 w2 x.numbers i st f).last = F := by unfold stepI; exact hFd
   rw [e, b1]
   exact ⟨rfl, rfl, rfl, rfl, fun _ => rfl⟩
  ·rw [b1]
   show F.report = 0
   rw [e_rp, hn]
   rfl
  ·rw [b7]; simp
  ·rw [hM]; simp; exact h.nf
  ·rw [hM]
   intro g hg
   rcases List.mem_append.1 hg with hg | hg
   ·exact h.small g hg
   ·have : g = { F with parent := op.headD (-1), pos := bitsS m.fields F.kind F.report } := by simpa using hg
    rw [this]
    exact hsm
  ·intro hn
   rw [hM]
   intro g hg
   rcases List.mem_append.1 hg with hg | hg
   ·exact h.nz hn g hg
   ·have : g = { F with parent := op.headD (-1), pos := bitsS m.fields F.kind F.report } := by simpa using hg
    rw [this]
    show F.report ≠ 0
    rw [e_rp, hn]
    simp only [if_true]
    omega
  ·rw [hC, a7]
   have := h.nc
   split
   ·simp; omega
   ·omega
 have hfin : ({ s1 with g := { s1.g with lo := F.lo, hi := F.hi, size := F.size, count := F.count, report := F.report }, numbered := x.numbers, usages := usagesF f, kept := kp } : RS).fields = m.fields := a5
 have hopns : (stepM x.numbers i m f).opens = if endsB f op.length then op.tail else op := by
  unfold stepM
  simp only [hop]
 have hdep : (stepI w3 w2 x.numbers i st f).depth = d2 f op.length := by
  unfold stepI
  simp only [hd1]
 cases he : endsB f op.length with
 | false =>
  refine ⟨_, by rw [hout]; exact hr0.app (hall.app (by unfold i10; rw [he]; exact Run.nil _)), ?_⟩
  refine hbase op _ rfl a2 rfl rfl (by show s1.fields ++ [{ F with parent := s1.opn, pos := bitsS s1.fields F.kind F.report }] = _; rw [a5, a8]) rfl rfl a8 (by rw [hopns, he]; rfl) (by rw [hdep]; unfold d2; rw [he]; rfl) a9 hop0 hople
 | true =>
  cases op with
  | nil => exact absurd rfl hop0
  | cons a l =>
   have hl1 : l ≠ [] := by
    intro e
    rw [e] at he
    unfold endsB at he
    simp at he
   have r10 := run_end (s := { s1 with g := { s1.g with lo := F.lo, hi := F.hi, size := F.size, count := F.count, report := F.report }, numbered := x.numbers, kept := kp, fields := s1.fields ++ [{ F with parent := s1.opn, pos := bitsS s1.fields F.kind F.report }], usages := [], keeps := false }) (a := a) (l := l) a8 a9
   refine ⟨_, by rw [hout]; exact hr0.app (hall.app (by unfold i10; rw [he]; exact r10)), ?_⟩
   refine hbase l _ rfl a2 rfl rfl (by show s1.fields ++ [{ F with parent := s1.opn, pos := bitsS s1.fields F.kind F.report }] = _; rw [a5, a8]) rfl rfl rfl (by rw [hopns, he]; rfl) (by rw [hdep]; unfold d2; rw [he]; rfl) a9.2.2 hl1 (by simp only [List.length_cons] at hople; omega)
end
theorem invT_all {x : PD} (hx : ∀ f ∈ x.fields, f.ok) {w3 w2 : Int} : ∀ i, i ≤ lenD x → ∃ s, Run (stI w3 w2 x i).out rs0 s ∧ InvT x i (stI w3 w2 x i) (stM x i) s
 | 0, _ => invT0 x
 | i + 1, hi => by
  obtain ⟨s, h1, h2⟩ := invT_all hx (w3 := w3) (w2 := w2) i (by omega)
  unfold lenD at hi
  obtain ⟨f, hf⟩ : ∃ f, x.fields[i]? = some f := ⟨_, List.getElem?_eq_getElem (by omega)⟩
  have e1 : stI w3 w2 x (i + 1) = stepI w3 w2 x.numbers i (stI w3 w2 x i) f := by
   conv => lhs; unfold stI
   rw [hf]
  have e2 : stM x (i + 1) = stepM x.numbers i (stM x i) f := by
   conv => lhs; unfold stM
   rw [hf]
  rw [e1, e2]
  exact invT_step h2 (by omega) (hx f (List.mem_of_getElem? hf)) h1
theorem told_run {x : PD} (hx : ∀ f ∈ x.fields, f.ok) (way : Int) : ∃ s, parseS (itemsS way x) = (0, s) ∧ s.fields = (stM x (lenD x)).fields ∧ s.colls = (stM x (lenD x)).colls ∧ s.numbered = (x.numbers && decide (0 < lenD x)) := by
 obtain ⟨s, h1, h2⟩ := invT_all hx (w3 := way % 3) (w2 := way / 3 % 2) (lenD x) (Nat.le_refl _)
 have h3 := run_ends (stM x (lenD x)).opens s h2.opn (by rw [h2.colls]; exact h2.chain) h2.us h2.kp
 rw [← h2.depth] at h3
 have h4 : Run (itemsS way x) rs0 { s with opn := -1 } := h1.app h3
 refine ⟨{ s with opn := -1 }, ?_, h2.fields, h2.colls, h2.nb⟩
 unfold parseS
 rw [show runS (itemsS way x) rs0 = (0, { s with opn := -1 }) from h4]
 have h5 : endS { s with opn := -1 } = 0 := by
  unfold endS
  rw [if_neg]
  rintro (h | h | ⟨h, h'⟩)
  ·exact absurd h (by show ¬ (0 : Int) ≤ -1; omega)
  ·exact h h2.stack
  ·have h6 : s.numbered = true := h
   rw [h2.nb] at h6
   simp only [Bool.and_eq_true] at h6
   rw [List.any_eq_true] at h'
   obtain ⟨g, hg, hg2⟩ := h'
   have hg3 : g ∈ s.fields := hg
   rw [h2.fields] at hg3
   exact h2.nz h6.1 g hg3 (by simpa using hg2)
 rw [h5]
 rfl
end Go.Proofs.Ytegdigfcgeoboaa
