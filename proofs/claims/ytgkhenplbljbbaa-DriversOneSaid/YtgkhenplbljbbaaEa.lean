/- Configurations, offers and choices as plain data; the best offer. No condition; nothing of the program. -/
import Derived.Test.YtgkhenplbljbbaaDa
set_option linter.unusedVariables false
set_option linter.unusedSimpArgs false
set_option linter.unusedSectionVars false
namespace Go.Proofs.Ytgkhenplbljbbaa
open Go.RowKit

/-- the settings of an interface are numbers of descriptors -/
def altCells (n : Int) : List Value := [.int .u8 0, .int .u8 0, .int .u8 0, .int .u8 (3 + n % 3), .int .u8 (n / 3 % 3), .int .u8 (n / 9 % 3), .int .u8 0, .slice none 0 0, .slice none 0 0]
def altT : Ty Int := Ty.flat 9 altCells (fun _ => True) (fun _ => rfl)
/-- an interface: its settings -/
abbrev ifT : Ty (List Int) := altT.slice
/-- a configuration -/
structure Cf where
  num : Int
  power : Int
  ifs : List (List Int)
def cfT : Ty Cf :=
  ⟨8, fun w F d cs => ∃ A c, cs = [.int .u16 0, .int .u8 0, .int .u8 d.num, .int .u8 0, .bool false, .bool false, .int .u8 d.power, .slice A d.ifs.length c] ∧ d.ifs.length ≤ c ∧ c ≤ maxLen ∧ d.ifs.length ≤ 5 ∧ u8ok d.power ∧ Sl ifT w F A d.ifs.length d.ifs,
   fun {_ _ _ _} ⟨_, _, e, _⟩ => by rw [e]; rfl,
   fun {_ _ _ _ _ _} ⟨A, c, e, h1, h2, h3, h4, h⟩ hB hk => ⟨A, c, e, h1, h2, h3, h4, h.keep hB hk⟩⟩
/-- a configuration of plain data, as it comes in -/
structure Cp where
  power : Int
  ifs : List Int
def u8T : Ty Int := Ty.flat 1 (fun n => [.int .u8 n]) u8ok (fun _ => rfl)
def i64T : Ty Int := Ty.flat 1 (fun n => [.int .i64 n]) (fun _ => True) (fun _ => rfl)
def cpT : Ty Cp :=
  ⟨2, fun w F d cs => ∃ A c, cs = [.int .u8 d.power, .slice A d.ifs.length c] ∧ d.ifs.length ≤ c ∧ c ≤ maxLen ∧ u8ok d.power ∧ Sl u8T w F A d.ifs.length d.ifs,
   fun {_ _ _ _} ⟨_, _, e, _⟩ => by rw [e]; rfl,
   fun {_ _ _ _ _ _} ⟨A, c, e, h1, h2, h3, h⟩ hB hk => ⟨A, c, e, h1, h2, h3, h.keep hB hk⟩⟩
def altsOf (n : Int) : List Int := if n = 255 then [] else [n, n + 1]
def cfOf (i : Nat) (c : Cp) : Cf := ⟨(i : Int) + 1, c.power, (c.ifs.take 5).map altsOf⟩
def cfsOf (x : List Cp) : List Cf := (x.take 4).mapIdx cfOf

/-- the driver of an interface, and what it counts -/
def drvAt (mt : Int → Int × Int) (l : List Int) : Int := match l with | [] => -1 | n :: _ => (mt n).1
def oneAt (mt : Int → Int × Int) (l : List Int) : Int := if 0 ≤ drvAt mt l then 1 else 0
def sumAt (mt : Int → Int × Int) (l : List Int) : Int := match l with | [] => 0 | n :: _ => if 0 ≤ (mt n).1 then (mt n).2 else 0
def total (f : List Int → Int) (l : List (List Int)) : Int := (l.map f).sum
theorem total_nil (f : List Int → Int) : total f [] = 0 := rfl
theorem total_succ {f : List Int → Int} {l : List (List Int)} {k : Nat} {x : List Int} (h : l[k]? = some x) : total f (l.take (k + 1)) = total f (l.take k) + f x := by
  unfold total; rw [map_take_succ h, List.sum_append]; simp
theorem total_bound {f : List Int → Int} {B : Int} (hf : ∀ x, 0 ≤ f x ∧ f x ≤ B) : ∀ l : List (List Int), 0 ≤ total f l ∧ total f l ≤ l.length * B
  | [] => by simp [total_nil]
  | x :: l => by
    have h := total_bound hf l
    have h1 := hf x
    unfold total at *
    rw [List.map_cons, List.sum_cons, List.length_cons]
    have : ((l.length + 1 : Nat) : Int) * B = l.length * B + B := by rw [Int.natCast_add, Int.add_mul]; simp
    omega
/-- an offer -/
structure Ofr where
  num : Int
  drv : List Int
  many : Int
  sum : Int
def ofrT : Ty Ofr :=
  ⟨4, fun w F d cs => ∃ A, cs = [.int .u8 d.num, .slice A d.drv.length d.drv.length, .int .i64 d.many, .int .i64 d.sum] ∧ d.drv.length ≤ maxLen ∧ Sl i64T w F A d.drv.length d.drv,
   fun {_ _ _ _} ⟨_, e, _⟩ => by rw [e]; rfl,
   fun {_ _ _ _ _ _} ⟨A, e, h1, h⟩ hB hk => ⟨A, e, h1, h.keep hB hk⟩⟩
def ofrOf (mt : Int → Int × Int) (c : Cf) : Ofr := ⟨c.num, c.ifs.map (drvAt mt), total (oneAt mt) c.ifs, total (sumAt mt) c.ifs⟩
/-- a is greater than b -/
def moreB (a b : Ofr) : Bool := decide (b.many < a.many) || (a.many == b.many && decide (b.sum < a.sum))
def stepB (b : Option Ofr) (o : Ofr) : Option Ofr := match b with | none => some o | some b => if moreB o b then some o else some b
def bestB (l : List Ofr) : Option Ofr := l.foldl stepB none
theorem bestB_nil : bestB [] = none := rfl
theorem bestB_snoc (l : List Ofr) (o : Ofr) : bestB (l ++ [o]) = stepB (bestB l) o := by simp [bestB]
theorem bestB_none {l : List Ofr} : bestB l = none ↔ l = [] := by
  constructor
  · intro h
    rcases List.eq_nil_or_concat l with h' | ⟨l', o, rfl⟩
    · exact h'
    · rw [List.concat_eq_append, bestB_snoc] at h
      unfold stepB at h
      split at h
      · cases h
      · split at h <;> cases h
  · rintro rfl; rfl
def affords (cur : Int) (c : Cf) : Bool := decide (c.power * 2 ≤ cur)
/-- the offers of the configurations that can be used -/
def offersB (mt : Int → Int × Int) (cur : Int) (l : List Cf) : List Ofr := (l.filter (affords cur)).map (ofrOf mt)
theorem offersB_yes {mt : Int → Int × Int} {cur : Int} {l : List Cf} {k : Nat} {c : Cf} (h : l[k]? = some c) (ha : c.power * 2 ≤ cur) : offersB mt cur (l.take (k + 1)) = offersB mt cur (l.take k) ++ [ofrOf mt c] := by
  obtain ⟨hk, e⟩ := List.getElem?_eq_some_iff.1 h
  have : affords cur c = true := by simp [affords, ha]
  unfold offersB
  rw [List.take_succ_eq_append_getElem hk, List.filter_append, List.map_append, e]; simp [List.filter, this]
theorem offersB_no {mt : Int → Int × Int} {cur : Int} {l : List Cf} {k : Nat} {c : Cf} (h : l[k]? = some c) (ha : ¬ c.power * 2 ≤ cur) : offersB mt cur (l.take (k + 1)) = offersB mt cur (l.take k) := by
  obtain ⟨hk, e⟩ := List.getElem?_eq_some_iff.1 h
  have : affords cur c = false := by simp [affords]; omega
  unfold offersB
  rw [List.take_succ_eq_append_getElem hk, List.filter_append, List.map_append, e]; simp [List.filter, this]
/-- the answer of a choice: the number, the drivers, the error -/
def choiceB (mt : Int → Int × Int) (cur : Int) (l : List Cf) : Int × List Int × Int :=
  if l.length = 0 then (0, [], 7) else match bestB (offersB mt cur l) with | none => (0, [], 15) | some o => (o.num, o.drv, 0)
end Go.Proofs.Ytgkhenplbljbbaa
