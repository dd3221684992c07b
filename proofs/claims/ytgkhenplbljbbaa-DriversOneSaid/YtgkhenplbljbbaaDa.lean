/- Rules, drivers and their scores as plain data. No condition; nothing of the program. -/
import Derived.Test.YtgkhenplbljbbaaPb
set_option linter.unusedVariables false
set_option linter.unusedSimpArgs false
set_option linter.unusedSectionVars false
namespace Go.Proofs.Ytgkhenplbljbbaa
open Go.RowKit

def has (u k : Int) : Bool := bits BinOp.and IntKind.u8 u k != 0
def pick (u k v : Int) : Int := if has u k then v else 0
def neqB (a b c d e f a' b' c' d' e' f' : Int) : Bool := !decide (a = a' ∧ b = b' ∧ c = c' ∧ d = d' ∧ e = e' ∧ f = f')
def gf (u k a b : Int) : Bool := !(u / k % 2 == 1) || a == b
theorem gf_no {u k a b : Int} (h : (u / k % 2 == 1) = false) : gf u k a b = true := by simp [gf, h]
theorem gf_yes {u k a b : Int} (h : (u / k % 2 == 1) = true) : gf u k a b = (a == b) := by simp [gf, h]
theorem gf_no1 {u a b : Int} (h : (u % 2 == 1) = false) : gf u 1 a b = true := by simp [gf, h]
theorem gf_yes1 {u a b : Int} (h : (u % 2 == 1) = true) : gf u 1 a b = (a == b) := by simp [gf, h]
/-- the score of a rule, by definition -/
def scoreL (u v p c s q d5 d6 i3 i4 i5 : Int) : Int := if gf u 16 v d5 && gf u 8 p d6 && gf u 4 c i3 && gf u 2 s i4 && gf u 1 q i5 then u else -1
/-- the score as the program finds it -/
def scoreS (u v p c s q d5 d6 i3 i4 i5 : Int) : Int := if neqB u (pick u 16 d5) (pick u 8 d6) (pick u 4 i3) (pick u 2 i4) (pick u 1 i5) u (pick u 16 v) (pick u 8 p) (pick u 4 c) (pick u 2 s) (pick u 1 q) then -1 else u

theorem has_16 : ∀ n : Fin 256, has ((n.val : Nat) : Int) 16 = (((n.val : Nat) : Int) / 16 % 2 == 1) := by decide +kernel
theorem has_8 : ∀ n : Fin 256, has ((n.val : Nat) : Int) 8 = (((n.val : Nat) : Int) / 8 % 2 == 1) := by decide +kernel
theorem has_4 : ∀ n : Fin 256, has ((n.val : Nat) : Int) 4 = (((n.val : Nat) : Int) / 4 % 2 == 1) := by decide +kernel
theorem has_2 : ∀ n : Fin 256, has ((n.val : Nat) : Int) 2 = (((n.val : Nat) : Int) / 2 % 2 == 1) := by decide +kernel
theorem has_1 : ∀ n : Fin 256, has ((n.val : Nat) : Int) 1 = (((n.val : Nat) : Int) / 1 % 2 == 1) := by decide +kernel
theorem pick_eq {u k a b : Int} (h : has u k = (u / k % 2 == 1)) : decide (pick u k a = pick u k b) = gf u k b a := by
  unfold pick gf; rw [h]; by_cases hh : u / k % 2 = 1 <;> simp [hh, Bool.beq_eq_decide_eq, eq_comm]

theorem score_eq (u v p c s q d5 d6 i3 i4 i5 : Int) (h0 : 0 ≤ u) (h1 : u < 256) : scoreS u v p c s q d5 d6 i3 i4 i5 = scoreL u v p c s q d5 d6 i3 i4 i5 := by
  obtain ⟨n, rfl⟩ := Int.eq_ofNat_of_zero_le h0
  have e16 := pick_eq (a := d5) (b := v) (has_16 ⟨n, by omega⟩)
  have e8 := pick_eq (a := d6) (b := p) (has_8 ⟨n, by omega⟩)
  have e4 := pick_eq (a := i3) (b := c) (has_4 ⟨n, by omega⟩)
  have e2 := pick_eq (a := i4) (b := s) (has_2 ⟨n, by omega⟩)
  have e1 := pick_eq (a := i5) (b := q) (has_1 ⟨n, by omega⟩)
  unfold scoreS scoreL neqB
  simp only [Bool.decide_and, e16, e8, e4, e2, e1]
  cases gf (n : Int) 16 v d5 <;> cases gf (n : Int) 8 p d6 <;> cases gf (n : Int) 4 c i3 <;> cases gf (n : Int) 2 s i4 <;> cases gf (n : Int) 1 q i5 <;> simp

/-- a rule -/
structure Rule where
  use : Int
  vendor : Int
  product : Int
  cls : Int
  sub : Int
  proto : Int
def Rule.cells (r : Rule) : List Value := [.int .u8 r.use, .int .u16 r.vendor, .int .u16 r.product, .int .u8 r.cls, .int .u8 r.sub, .int .u8 r.proto]
def Rule.ok (r : Rule) : Prop := 0 ≤ r.use ∧ r.use < 256
def ruleT : Ty Rule := Ty.flat 6 Rule.cells Rule.ok (fun _ => rfl)
def Rule.score (r : Rule) (d5 d6 i3 i4 i5 : Int) : Int := scoreS r.use r.vendor r.product r.cls r.sub r.proto d5 d6 i3 i4 i5
theorem Rule.score_le (r : Rule) (h : r.ok) (d5 d6 i3 i4 i5 : Int) : -1 ≤ r.score d5 d6 i3 i4 i5 ∧ r.score d5 d6 i3 i4 i5 < 256 := by
  obtain ⟨h0, h1⟩ := h
  unfold Rule.score scoreS; split <;> omega

def bitv (u k v : Int) : Int := if (u / k % 2 == 1) = true then v else 0

/-- the rule of plain data -/
def rofR (a b c d : Int) : Rule := ⟨1 + a % 31, bitv (1 + a % 31) 16 (4660 + b % 2), bitv (1 + a % 31) 8 (7 + b / 2 % 2), bitv (1 + a % 31) 4 (3 + c % 3), bitv (1 + a % 31) 2 (d % 3), bitv (1 + a % 31) 1 (d / 3 % 3)⟩

/-- a rule of plain data, as it comes in -/
structure Rp where
  use : Int
  ids : Int
  cls : Int
  oth : Int
def Rp.cells (r : Rp) : List Value := [.int .u8 r.use, .int .u8 r.ids, .int .u8 r.cls, .int .u8 r.oth]
def u8ok (n : Int) : Prop := 0 ≤ n ∧ n < 256
def Rp.ok (r : Rp) : Prop := u8ok r.use ∧ u8ok r.ids ∧ u8ok r.cls ∧ u8ok r.oth
def rpT : Ty Rp := Ty.flat 4 Rp.cells Rp.ok (fun _ => rfl)
def Rp.rule (r : Rp) : Rule := rofR r.use r.ids r.cls r.oth
theorem Rp.rule_ok (r : Rp) (h : r.ok) : r.rule.ok := by
  obtain ⟨⟨h0, h1⟩, _⟩ := h
  show 0 ≤ 1 + r.use % 31 ∧ 1 + r.use % 31 < 256
  omega

/-- a driver -/
structure Drv where
  name : ByteArray
  rules : List Rule
def drvT : Ty Drv :=
  ⟨2, fun w F d cs => ∃ A c, cs = [.string d.name, .slice A d.rules.length c] ∧ d.rules.length ≤ c ∧ c ≤ maxLen ∧ d.name.size ≤ maxLen ∧ Sl ruleT w F A d.rules.length d.rules,
   fun {_ _ _ _} ⟨_, _, e, _⟩ => by rw [e]; rfl,
   fun {_ _ _ _ _ _} ⟨A, c, e, h1, h2, h3, h⟩ hB hk => ⟨A, c, e, h1, h2, h3, h.keep hB hk⟩⟩

section
variable {w w' : World} {B n k : Nat} {A : Option Addr}
theorem rule_at {rs : List Rule} (h : Sl ruleT w (low B) A n rs) (hb : Below B w w') (hk : k < n) : ∃ r b off, rs[k]? = some r ∧ A = some ⟨b, off, none⟩ ∧ b < B ∧ b < w'.heap.size ∧ r.ok ∧
    w'.cell? ⟨b, off + k * 6, none⟩ = some (.int .u8 r.use) ∧ w'.cell? ⟨b, off + k * 6 + 1, none⟩ = some (.int .u16 r.vendor) ∧ w'.cell? ⟨b, off + k * 6 + 2, none⟩ = some (.int .u16 r.product) ∧
    w'.cell? ⟨b, off + k * 6 + 3, none⟩ = some (.int .u8 r.cls) ∧ w'.cell? ⟨b, off + k * 6 + 4, none⟩ = some (.int .u8 r.sub) ∧ w'.cell? ⟨b, off + k * 6 + 5, none⟩ = some (.int .u8 r.proto) := by
  obtain ⟨r, b, off, cs, hx, hA, hbb, ⟨rfl, hok⟩, hc⟩ := (h.below hb).at hk
  exact ⟨r, b, off, hx, hA, hbb, World.block_lt_of_cell? w' _ (hc 0 _ rfl), hok, hc 0 _ rfl, hc 1 _ rfl, hc 2 _ rfl, hc 3 _ rfl, hc 4 _ rfl, hc 5 _ rfl⟩
theorem drv_at {l : List Drv} (h : Sl drvT w (low B) A n l) (hb : Below B w w') (hk : k < n) : ∃ d b off A' c', l[k]? = some d ∧ A = some ⟨b, off, none⟩ ∧ b < B ∧ b < w'.heap.size ∧ d.rules.length ≤ c' ∧ c' ≤ maxLen ∧ d.name.size ≤ maxLen ∧
    w'.cell? ⟨b, off + k * 2, none⟩ = some (.string d.name) ∧ w'.cell? ⟨b, off + k * 2 + 1, none⟩ = some (.slice A' d.rules.length c') ∧ Sl ruleT w (low B) A' d.rules.length d.rules := by
  obtain ⟨d, b, off, cs, hx, hA, hbb, ⟨A', c', rfl, h1, h2, h3, hs⟩, hc⟩ := h.at hk
  have hc' := range_below hc hb hbb
  exact ⟨d, b, off, A', c', hx, hA, hbb, World.block_lt_of_cell? w' _ (hc' 0 _ rfl), h1, h2, h3, hc' 0 _ rfl, hc' 1 _ rfl, hs⟩
end

theorem rp_at {w w' : World} {B n k : Nat} {A : Option Addr} {rs : List Rp} (h : Sl rpT w (low B) A n rs) (hb : Below B w w') (hk : k < n) : ∃ r b off, rs[k]? = some r ∧ A = some ⟨b, off, none⟩ ∧ b < B ∧ b < w'.heap.size ∧ r.ok ∧
    w'.cell? ⟨b, off + k * 4, none⟩ = some (.int .u8 r.use) ∧ w'.cell? ⟨b, off + k * 4 + 1, none⟩ = some (.int .u8 r.ids) ∧ w'.cell? ⟨b, off + k * 4 + 2, none⟩ = some (.int .u8 r.cls) ∧
    w'.cell? ⟨b, off + k * 4 + 3, none⟩ = some (.int .u8 r.oth) := by
  obtain ⟨r, b, off, cs, hx, hA, hbb, ⟨rfl, hok⟩, hc⟩ := (h.below hb).at hk
  exact ⟨r, b, off, hx, hA, hbb, World.block_lt_of_cell? w' _ (hc 0 _ rfl), hok, hc 0 _ rfl, hc 1 _ rfl, hc 2 _ rfl, hc 3 _ rfl⟩

/-- the loops of Match: the driver with the best score so far, and that score -/
def stepR (sc : Rule → Int) (k : Nat) (rs : List Rule) (j : Nat) (a : Int × Int) : Int × Int :=
  match rs[j]? with
  | some r => if a.2 < sc r then ((k : Int), sc r) else a
  | none => a
def stepD (sc : Rule → Int) (l : List Drv) (k : Nat) (a : Int × Int) : Int × Int :=
  match l[k]? with
  | some d => upTo (stepR sc k d.rules) a d.rules.length
  | none => a
def matchS (sc : Rule → Int) (l : List Drv) : Int × Int := upTo (stepD sc l) (-1, -1) l.length
theorem stepR_yes {sc : Rule → Int} {k : Nat} {rs : List Rule} {j : Nat} {a : Int × Int} {r : Rule} (hr : rs[j]? = some r) (h : a.2 < sc r) : stepR sc k rs j a = ((k : Int), sc r) := by
  simp [stepR, hr, h]
theorem stepR_no {sc : Rule → Int} {k : Nat} {rs : List Rule} {j : Nat} {a : Int × Int} {r : Rule} (hr : rs[j]? = some r) (h : ¬ a.2 < sc r) : stepR sc k rs j a = a := by
  simp [stepR, hr, h]
theorem stepD_some {sc : Rule → Int} {l : List Drv} {k : Nat} {a : Int × Int} {d : Drv} (hd : l[k]? = some d) : stepD sc l k a = upTo (stepR sc k d.rules) a d.rules.length := by
  simp [stepD, hd]
end Go.Proofs.Ytgkhenplbljbbaa
