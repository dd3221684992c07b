/- Configurations as plain data. -/
import Derived.Test.YtjgncofhobhjdaaDoorN1
set_option linter.unusedVariables false
set_option linter.unusedSimpArgs false
set_option linter.unusedSectionVars false
/- Configurations as plain data: their descriptors, their bytes, what is valid. No condition; nothing of the program. -/
namespace Go.Proofs.YtjgncofhobhjdaaDoor
open Go.RowKit

def u8k (n : Int) : Prop := 0 ≤ n ∧ n < 256
def u16k (n : Int) : Prop := 0 ≤ n ∧ n < 65536
/-- the descriptor of a configuration -/
structure CfgD where
  total : Int
  ifs : Int
  number : Int
  text : Int
  self : Bool
  wake : Bool
  power : Int
/-- the descriptor of an interface -/
structure IfD where
  num : Int
  alt : Int
  eps : Int
  cls : Int
  sub : Int
  proto : Int
  text : Int
/-- the descriptor of an endpoint -/
structure EpD where
  num : Int
  inn : Bool
  kind : Int
  max : Int
  ivl : Int
structure Alt where
  d : IfD
  extra : List Int
  eps : List EpD
structure Cfg where
  d : CfgD
  ifs : List (List Alt)

def okCfg (d : CfgD) : Bool := decide (9 ≤ d.total) && decide (d.total ≤ 4096) && decide (1 ≤ d.ifs) && decide (d.ifs ≤ 16) && decide (1 ≤ d.number) && decide (d.power ≤ 250)
def okIf (d : IfD) : Bool := decide (d.num < 16) && decide (d.alt < 16) && decide (d.eps ≤ 30)
def okEp (e : EpD) : Bool := decide (1 ≤ e.num) && decide (e.num ≤ 15) && decide (1 ≤ e.max) && decide (e.max ≤ 1024) &&
  (if e.kind = 2 then decide (e.ivl = 0) else if e.kind = 1 then decide (1 ≤ e.ivl) && decide (e.ivl ≤ 16) else if e.kind = 3 then decide (1 ≤ e.ivl) else false)
def attrS (d : CfgD) : Int := 128 + (if d.self then 64 else 0) + (if d.wake then 32 else 0)
def rawCfg (d : CfgD) : List Int := [9, 2, d.total % 256, d.total / 256, d.ifs, d.number, d.text, attrS d, d.power]
def rawIf (d : IfD) : List Int := [9, 4, d.num, d.alt, d.eps, d.cls, d.sub, d.proto, d.text]
def addrS (e : EpD) : Int := e.num % 16 + (if e.inn then 128 else 0)
def rawEp (e : EpD) : List Int := [7, 5, addrS e, e.kind, e.max % 256, e.max / 256, e.ivl]
def encCfg (d : CfgD) : List Int := if okCfg d then rawCfg d else []
def encIf (d : IfD) : List Int := if okIf d then rawIf d else []
def encEp (e : EpD) : List Int := if okEp e then rawEp e else []
def stdS (k : Int) : Bool := decide (k = 1) || decide (k = 2) || decide (k = 4) || decide (k = 5)
/-- bytes divided into descriptors -/
def divS : Nat → List Int → Option (List (List Int))
  | 0, _ => none
  | n + 1, b => match b with
    | [] => some []
    | h :: r => if h < 2 ∨ ((h :: r).length : Int) < h then none else (divS n ((h :: r).drop h.toNat)).map fun l => (h :: r).take h.toNat :: l
def divide (b : List Int) : Option (List (List Int)) := if 4096 < b.length then none else divS (b.length + 1) b
def divE (b : List Int) : Int := if 4096 < b.length then 3 else if (divS (b.length + 1) b).isNone then 4 else 0
def kindB (b : List Int) : Int := b.getD 1 0
def extraOk (x : List Int) : Bool := match divide x with
  | none => false
  | some l => l.all fun b => !stdS (kindB b)
def altBytes (a : Alt) : List Int := encIf a.d ++ a.extra ++ a.eps.flatMap encEp
def ifBytes (l : List Alt) : List Int := l.flatMap altBytes
def bytesS (c : Cfg) : List Int := encCfg c.d ++ c.ifs.flatMap ifBytes
def altOk (a : Alt) : Bool := okIf a.d && extraOk a.extra && a.eps.all okEp
def validS (c : Cfg) : Bool := okCfg c.d && c.ifs.all fun l => l.all altOk
def altSize (a : Alt) : Nat := 9 + a.extra.length + 7 * a.eps.length
def sizeS (c : Cfg) : Nat := 9 + (c.ifs.map fun l => (l.map altSize).sum).sum
/-- the numbers of the settings of interface i, from j on -/
def altsCounted (i : Nat) : Nat → List Alt → Bool
  | _, [] => true
  | j, a :: l => decide (a.d.num = (i : Int)) && decide (a.d.alt = (j : Int)) && decide (a.d.eps = (a.eps.length : Int)) && altsCounted i (j + 1) l
def ifsCounted : Nat → List (List Alt) → Bool
  | _, [] => true
  | i, x :: l => altsCounted i 0 x && ifsCounted (i + 1) l
def countedS (c : Cfg) : Bool := decide (c.d.ifs = (c.ifs.length : Int)) && decide (c.d.total = (sizeS c : Int)) && ifsCounted 0 c.ifs
/-- an address belongs to another interface -/
def other (o : Int → Option Nat) (i : Nat) (a : Int) : Bool := match o a with
  | some j => j != i
  | none => false
/-- endpoints one after another: who owns an address, and which have been seen in this setting -/
def epsApart (i : Nat) : List EpD → (Int → Option Nat) → (Int → Bool) → Option (Int → Option Nat)
  | [], o, _ => some o
  | e :: l, o, s => if other o i (addrS e) || s (addrS e) then none
    else epsApart i l (fun a => if a = addrS e then some i else o a) (fun a => if a = addrS e then true else s a)
def altsApart (i : Nat) : List Alt → (Int → Option Nat) → Option (Int → Option Nat)
  | [], o => some o
  | a :: l, o => (epsApart i a.eps o fun _ => false).bind (altsApart i l)
def ifsApart : Nat → List (List Alt) → (Int → Option Nat) → Bool
  | _, [], _ => true
  | i, x :: l, o => match altsApart i x o with
    | none => false
    | some o' => ifsApart (i + 1) l o'
def apartS (c : Cfg) : Bool := ifsApart 0 c.ifs fun _ => none
def limitS (c : Cfg) : Bool := decide (16 < c.ifs.length) || decide (4096 < sizeS c) || c.ifs.any fun l => decide (16 < l.length)
def checkS (c : Cfg) : Int := if limitS c then 3 else if validS c && countedS c && apartS c && !(c.ifs.any fun l => l.isEmpty) then 0 else 1
def fillAlt (i j : Nat) (a : Alt) : Alt := { a with d := { a.d with num := (i : Int) % 256, alt := (j : Int) % 256, eps := (a.eps.length : Int) % 256 } }
def fillIfs (l : List (List Alt)) : List (List Alt) := l.mapIdx fun i x => x.mapIdx fun j a => fillAlt i j a
def fillS (c : Cfg) : Cfg := ⟨{ c.d with number := if c.d.number = 0 then 1 else c.d.number, ifs := (c.ifs.length : Int) % 256, total := (sizeS c : Int) % 65536 }, fillIfs c.ifs⟩
def encE (c : Cfg) : Int := checkS c
-- equality
def sameCfgD (a b : CfgD) : Bool := a.total == b.total && a.ifs == b.ifs && a.number == b.number && a.text == b.text && a.self == b.self && a.wake == b.wake && a.power == b.power
def sameIfD (a b : IfD) : Bool := a.num == b.num && a.alt == b.alt && a.eps == b.eps && a.cls == b.cls && a.sub == b.sub && a.proto == b.proto && a.text == b.text
def sameEp (a b : EpD) : Bool := a.num == b.num && a.inn == b.inn && a.kind == b.kind && a.max == b.max && a.ivl == b.ivl
def sameL {α : Type} (f : α → α → Bool) : List α → List α → Bool
  | [], [] => true
  | a :: l, b :: m => f a b && sameL f l m
  | _, _ => false
def sameAlt (a b : Alt) : Bool := sameIfD a.d b.d && a.extra == b.extra && sameL sameEp a.eps b.eps
def sameS (a b : Cfg) : Bool := sameCfgD a.d b.d && sameL (sameL sameAlt) a.ifs b.ifs
end Go.Proofs.YtjgncofhobhjdaaDoor
/- The configuration of plain data (Of), and that it is valid. No condition; nothing of the program. -/
namespace Go.Proofs.YtjgncofhobhjdaaDoor
open Go.RowKit

structure PE where
  kind : Int
  ivl : Int
  max : Int
structure PA where
  cls : Int
  text : Int
  extra : List Int
  eps : List PE
structure PC where
  number : Int
  text : Int
  power : Int
  self : Bool
  wake : Bool
  ifs : List (List PA)
def PE.ok (e : PE) : Prop := u8k e.kind ∧ u8k e.ivl ∧ u16k e.max
def PA.ok (a : PA) : Prop := u8k a.cls ∧ u8k a.text ∧ (∀ z ∈ a.extra, u8k z) ∧ ∀ e ∈ a.eps, e.ok
def PC.ok (x : PC) : Prop := u8k x.number ∧ u8k x.text ∧ u8k x.power ∧ ∀ l ∈ x.ifs, ∀ a ∈ l, a.ok
/-- not too much -/
def bigA (a : PA) : Bool := decide (4 < a.eps.length) || decide (3 < a.extra.length)
def bigS (x : PC) : Bool := decide (6 < x.ifs.length) || x.ifs.any fun l => decide (4 < l.length) || l.any bigA
def ofEp (i k : Nat) (e : PE) : EpD :=
  ⟨(1 + (((4 * i + k) / 2 : Nat) : Int)) % 256, (4 * i + k) % 2 == 1, 1 + e.kind % 3, 1 + e.max % 1024, if e.kind % 3 = 0 then 1 + e.ivl % 16 else if e.kind % 3 = 2 then 1 + e.ivl % 255 else 0⟩
/-- a descriptor of a vendor -/
def ofX (k : Nat) (z : Int) : List Int := (2 + z % 30) :: (32 + (k : Int)) :: List.replicate (z % 30).toNat 0
def ofExtra (l : List Int) : List Int := (l.mapIdx fun k z => ofX k z).flatten
def ofAlt (i j : Nat) (a : PA) : Alt := ⟨⟨i, j, a.eps.length, a.cls, a.cls / 2, a.cls % 5, a.text % 8⟩, ofExtra a.extra, a.eps.mapIdx fun k e => ofEp i k e⟩
def pa0 : PA := ⟨0, 0, [], []⟩
def altsOr (l : List PA) : List PA := if l = [] then [pa0] else l
def ifsOr (l : List (List PA)) : List (List PA) := if l = [] then [[]] else l
def ofIfs (l : List (List PA)) : List (List Alt) := (ifsOr l).mapIdx fun i x => (altsOr x).mapIdx fun j a => ofAlt i j a
def ofD (x : PC) (n : Nat) : CfgD := ⟨n, ((ifsOr x.ifs).length : Int), 1 + x.number % 8, x.text % 8, x.self, x.wake, x.power % 251⟩
def ofS (x : PC) : Cfg := ⟨ofD x (9 + ((ofIfs x.ifs).map fun l => (l.map altSize).sum).sum), ofIfs x.ifs⟩
/-- the address of endpoint n -/
def nAddr (n : Nat) : Int := 1 + ((n / 2 : Nat) : Int) + (if n % 2 = 1 then 128 else 0)
theorem ofEp_addr (i k : Nat) (e : PE) (h : 4 * i + k < 30) : addrS (ofEp i k e) = nAddr (4 * i + k) := by
  unfold addrS ofEp nAddr
  have h1 : (1 + (((4 * i + k) / 2 : Nat) : Int)) % 256 % 16 = 1 + (((4 * i + k) / 2 : Nat) : Int) := by omega
  simp only [h1]
  by_cases h2 : (4 * i + k) % 2 = 1
  · rw [if_pos (by simpa using h2), if_pos h2]
  · rw [if_neg (by simpa using h2), if_neg h2]
theorem nAddr_inj {a b : Nat} (h1 : a < 30) (h2 : b < 30) (h : nAddr a = nAddr b) : a = b := by
  unfold nAddr at h
  split at h <;> split at h <;> omega
theorem ofEp_ok (i k : Nat) (e : PE) (h : e.ok) (hn : 4 * i + k < 30) : okEp (ofEp i k e) = true := by
  obtain ⟨⟨a, b⟩, ⟨c, d⟩, ⟨f, g⟩⟩ := h
  unfold okEp ofEp
  simp only [Bool.and_eq_true, decide_eq_true_eq]
  refine ⟨⟨⟨⟨by omega, by omega⟩, by omega⟩, by omega⟩, ?_⟩
  have : e.kind % 3 = 0 ∨ e.kind % 3 = 1 ∨ e.kind % 3 = 2 := by omega
  rcases this with h | h | h <;> rw [h] <;> simp <;> omega
theorem ofX_len (k : Nat) (z : Int) (h : u8k z) : (ofX k z).length = 2 + (z % 30).toNat := by unfold ofX; simp; omega
theorem ofX_head (k : Nat) (z : Int) (h : u8k z) : ((ofX k z).length : Int) = 2 + z % 30 := by
  rw [ofX_len k z h]; have := h.1; simp; omega
/-- descriptors one behind the other are divided again -/
theorem div_flat : ∀ (l : List (List Int)) (n : Nat), (∀ b ∈ l, 2 ≤ b.length ∧ b.head? = some (b.length : Int)) → l.length < n → divS n l.flatten = some l
  | [], n + 1, _, _ => rfl
  | b :: l, n + 1, h, hn => by
    obtain ⟨h1, h2⟩ := h b List.mem_cons_self
    cases b with
    | nil => simp at h1
    | cons x r =>
      have hx : x = ((x :: r).length : Int) := by simpa using h2
      have e : (x :: r) :: l = [x :: r] ++ l := rfl
      rw [List.flatten_cons, List.cons_append]
      show (if x < 2 ∨ ((x :: (r ++ l.flatten)).length : Int) < x then none else (divS n ((x :: (r ++ l.flatten)).drop x.toNat)).map fun l' => (x :: (r ++ l.flatten)).take x.toNat :: l') = _
      have ht : x.toNat = (x :: r).length := by rw [hx]; simp
      have hlen : ((x :: (r ++ l.flatten)).length : Int) = (x :: r).length + (l.flatten).length := by simp; omega
      rw [if_neg (by rw [hlen]; simp at h1 hx ⊢; omega)]
      rw [ht, ← List.cons_append, List.drop_left, List.take_left, div_flat l n (fun b hb => h b (List.mem_cons_of_mem _ hb)) (by simp at hn; omega)]
      rfl
end Go.Proofs.YtjgncofhobhjdaaDoor
/- The configuration of plain data is valid. No condition; nothing of the program. -/
namespace Go.Proofs.YtjgncofhobhjdaaDoor
open Go.RowKit

theorem sum_le : ∀ (l : List Nat) (B : Nat), (∀ x ∈ l, x ≤ B) → l.sum ≤ l.length * B
  | [], B, _ => by simp
  | x :: l, B, h => by
    have h1 := sum_le l B (fun y hy => h y (List.mem_cons_of_mem _ hy))
    have h2 := h x List.mem_cons_self
    rw [List.sum_cons, List.length_cons, Nat.add_mul]
    omega
theorem ofExtra_len {l : List Int} (hl : l.length ≤ 3) (h : ∀ z ∈ l, u8k z) : (ofExtra l).length ≤ 93 := by
  unfold ofExtra
  rw [List.length_flatten]
  refine Nat.le_trans (sum_le _ 31 ?_) (by simp; omega)
  intro n hn
  obtain ⟨b, hb, rfl⟩ := List.mem_map.1 hn
  obtain ⟨i, hi, rfl⟩ := List.mem_mapIdx.1 hb
  rw [ofX_len _ _ (h _ (List.getElem_mem hi))]
  omega
theorem ofExtra_ok {l : List Int} (hl : l.length ≤ 3) (h : ∀ z ∈ l, u8k z) : extraOk (ofExtra l) = true := by
  have hn := ofExtra_len hl h
  have hm : ∀ b ∈ (l.mapIdx fun k z => ofX k z), ∃ k z, k < 3 ∧ u8k z ∧ b = ofX k z := by
    intro b hb
    obtain ⟨i, hi, rfl⟩ := List.mem_mapIdx.1 hb
    exact ⟨i, l[i], by omega, h _ (List.getElem_mem hi), rfl⟩
  have hd : divide (ofExtra l) = some (l.mapIdx fun k z => ofX k z) := by
    unfold divide
    rw [if_neg (by omega)]
    refine div_flat _ _ (fun b hb => ?_) ?_
    · obtain ⟨k, z, _, hz, rfl⟩ := hm b hb
      refine ⟨by rw [ofX_len k z hz]; omega, ?_⟩
      rw [ofX_head k z hz]
      rfl
    · have : ∀ (L : List (List Int)), (∀ b ∈ L, 1 ≤ b.length) → L.length ≤ L.flatten.length := by
        intro L
        induction L with
        | nil => intro _; simp
        | cons b L ih =>
          intro hb
          have h1 := hb b List.mem_cons_self
          have h2 := ih (fun c hc => hb c (List.mem_cons_of_mem _ hc))
          rw [List.flatten_cons, List.length_append, List.length_cons]
          omega
      have h3 := this (l.mapIdx fun k z => ofX k z) (fun b hb => by obtain ⟨k, z, _, hz, rfl⟩ := hm b hb; rw [ofX_len k z hz]; omega)
      unfold ofExtra
      omega
  unfold extraOk
  rw [hd]
  rw [List.all_eq_true]
  intro b hb
  obtain ⟨k, z, hk, _, rfl⟩ := hm b hb
  have hkk : k = 0 ∨ k = 1 ∨ k = 2 := by omega
  rcases hkk with rfl | rfl | rfl <;> rfl
theorem big_alt {x : PC} (h : bigS x = false) : x.ifs.length ≤ 6 ∧ ∀ l ∈ x.ifs, l.length ≤ 4 ∧ ∀ a ∈ l, a.eps.length ≤ 4 ∧ a.extra.length ≤ 3 := by
  unfold bigS at h
  simp only [Bool.or_eq_false_iff, decide_eq_false_iff_not, List.any_eq_false, Bool.or_eq_true, decide_eq_true_eq, not_or, List.any_eq_true, not_exists, not_and] at h
  refine ⟨by omega, fun l hl => ?_⟩
  obtain ⟨h1, h2⟩ := h.2 l hl
  refine ⟨by omega, fun a ha => ?_⟩
  have := h2 a ha
  unfold bigA at this
  simp only [Bool.or_eq_true, decide_eq_true_eq, not_or] at this
  omega
/-- what is known of all settings of plain data that are not too much -/
structure Small (l : List (List PA)) : Prop where
  many : 1 ≤ l.length ∧ l.length ≤ 6
  each : ∀ x ∈ l, (altsOr x).length ≤ 4 ∧ 1 ≤ (altsOr x).length ∧ ∀ a ∈ altsOr x, a.ok ∧ a.eps.length ≤ 4 ∧ a.extra.length ≤ 3
theorem small_of {x : PC} (h : bigS x = false) (hx : x.ok) : Small (ifsOr x.ifs) := by
  obtain ⟨h1, h2⟩ := big_alt h
  have p0 : pa0.ok ∧ pa0.eps.length ≤ 4 ∧ pa0.extra.length ≤ 3 := by
    refine ⟨⟨⟨by decide, by decide⟩, ⟨by decide, by decide⟩, ?_, ?_⟩, by decide, by decide⟩ <;> intro z hz <;> cases hz
  have hor : ∀ l : List PA, (∀ a ∈ l, a.ok ∧ a.eps.length ≤ 4 ∧ a.extra.length ≤ 3) → l.length ≤ 4 → (altsOr l).length ≤ 4 ∧ 1 ≤ (altsOr l).length ∧ ∀ a ∈ altsOr l, a.ok ∧ a.eps.length ≤ 4 ∧ a.extra.length ≤ 3 := by
    intro l ha hl
    unfold altsOr
    by_cases e : l = []
    · rw [if_pos e]
      exact ⟨by decide, by decide, fun a ha => by rw [List.mem_singleton.1 ha]; exact p0⟩
    · rw [if_neg e]
      exact ⟨hl, List.length_pos_iff.2 e, ha⟩
  unfold ifsOr
  by_cases e : x.ifs = []
  · rw [if_pos e]
    refine ⟨by decide, fun l hl => ?_⟩
    rw [List.mem_singleton.1 hl]
    exact hor [] (fun a ha => by cases ha) (by decide)
  · rw [if_neg e]
    refine ⟨⟨List.length_pos_iff.2 e, h1⟩, fun l hl => ?_⟩
    obtain ⟨h3, h4⟩ := h2 l hl
    exact hor l (fun a ha => ⟨hx.2.2.2 l hl a ha, h4 a ha⟩) h3
theorem ofAlt_size (i j : Nat) {a : PA} (h : a.ok ∧ a.eps.length ≤ 4 ∧ a.extra.length ≤ 3) : altSize (ofAlt i j a) ≤ 130 := by
  have := ofExtra_len h.2.2 h.1.2.2.1
  unfold altSize ofAlt
  simp
  omega
theorem ofAlt_ok (i j : Nat) {a : PA} (h : a.ok ∧ a.eps.length ≤ 4 ∧ a.extra.length ≤ 3) (hi : i < 6) (hj : j < 4) : altOk (ofAlt i j a) = true := by
  unfold altOk ofAlt
  simp only [Bool.and_eq_true]
  refine ⟨⟨?_, ofExtra_ok h.2.2 h.1.2.2.1⟩, ?_⟩
  · unfold okIf
    simp only [Bool.and_eq_true, decide_eq_true_eq]
    omega
  · rw [List.all_eq_true]
    intro e he
    obtain ⟨k, hk, rfl⟩ := List.mem_mapIdx.1 he
    exact ofEp_ok i k _ (h.1.2.2.2 _ (List.getElem_mem hk)) (by omega)
theorem alts_counted (i : Nat) : ∀ (l : List PA) (j : Nat), altsCounted i j (l.mapIdx fun k a => ofAlt i (j + k) a) = true
  | [], j => rfl
  | a :: l, j => by
    rw [List.mapIdx_cons]
    unfold altsCounted
    have h1 := alts_counted i l (j + 1)
    have e : (fun k a => ofAlt i (j + (k + 1)) a) = fun k a => ofAlt i (j + 1 + k) a := by funext k a; rw [show j + (k + 1) = j + 1 + k by omega]
    rw [e, h1]
    simp [ofAlt]
theorem ifs_counted : ∀ (l : List (List PA)) (i : Nat), ifsCounted i (l.mapIdx fun k x => (altsOr x).mapIdx fun j a => ofAlt (i + k) j a) = true
  | [], i => rfl
  | x :: l, i => by
    rw [List.mapIdx_cons]
    unfold ifsCounted
    have h1 := ifs_counted l (i + 1)
    have h2 := alts_counted i (altsOr x) 0
    simp only [Nat.zero_add] at h2
    have e : (fun k x => (altsOr x).mapIdx fun j a => ofAlt (i + (k + 1)) j a) = fun k x => (altsOr x).mapIdx fun j a => ofAlt (i + 1 + k) j a := by funext k x; rw [show i + (k + 1) = i + 1 + k by omega]
    rw [e, h1, Nat.add_zero, h2]
    rfl
def OwnOk (i : Nat) (o : Int → Option Nat) : Prop := ∀ a j, o a = some j → j ≤ i ∧ ∃ k, k < 4 ∧ a = nAddr (4 * j + k)
theorem eps_apart (i : Nat) (hi : i < 6) : ∀ (l : List PE) (k0 : Nat) (o : Int → Option Nat) (s : Int → Bool), k0 + l.length ≤ 4 → OwnOk i o → (∀ a, s a = true → ∃ k, k < k0 ∧ a = nAddr (4 * i + k)) →
    ∃ o', epsApart i (l.mapIdx fun k e => ofEp i (k0 + k) e) o s = some o' ∧ OwnOk i o'
  | [], k0, o, s, _, ho, _ => ⟨o, rfl, ho⟩
  | e :: l, k0, o, s, hk, ho, hs => by
    rw [List.length_cons] at hk
    have hA : addrS (ofEp i (k0 + 0) e) = nAddr (4 * i + k0) := ofEp_addr i k0 e (by omega)
    have h1 : other o i (nAddr (4 * i + k0)) = false := by
      unfold other
      cases h : o (nAddr (4 * i + k0)) with
      | none => rfl
      | some j =>
        obtain ⟨hj, k, hk4, e2⟩ := ho _ _ h
        have := nAddr_inj (by omega) (by omega) e2
        have : j = i := by omega
        rw [this]; simp
    have h2 : s (nAddr (4 * i + k0)) = false := by
      cases h : s (nAddr (4 * i + k0)) with
      | false => rfl
      | true =>
        obtain ⟨k, hk4, e2⟩ := hs _ h
        have := nAddr_inj (by omega) (by omega) e2
        omega
    obtain ⟨o', e3, h3⟩ := eps_apart i hi l (k0 + 1) (fun a => if a = nAddr (4 * i + k0) then some i else o a) (fun a => if a = nAddr (4 * i + k0) then true else s a) (by omega)
      (fun a j h => by
        dsimp only at h
        by_cases ha : a = nAddr (4 * i + k0)
        · rw [if_pos ha] at h
          injection h with h
          subst h
          exact ⟨Nat.le_refl _, k0, by omega, ha⟩
        · rw [if_neg ha] at h
          exact ho a j h)
      (fun a h => by
        by_cases ha : a = nAddr (4 * i + k0)
        · exact ⟨k0, by omega, ha⟩
        · rw [if_neg ha] at h
          obtain ⟨k, hk4, e2⟩ := hs a h
          exact ⟨k, by omega, e2⟩)
    refine ⟨o', ?_, h3⟩
    rw [List.mapIdx_cons]
    have e4 : (fun k e => ofEp i (k0 + (k + 1)) e) = fun k e => ofEp i (k0 + 1 + k) e := by funext k e; rw [show k0 + (k + 1) = k0 + 1 + k by omega]
    rw [e4]
    unfold epsApart
    rw [hA, h1, h2]
    exact e3
theorem alts_apart (i : Nat) (hi : i < 6) : ∀ (l : List PA) (j0 : Nat) (o : Int → Option Nat), (∀ a ∈ l, a.eps.length ≤ 4) → OwnOk i o → ∃ o', altsApart i (l.mapIdx fun j a => ofAlt i (j0 + j) a) o = some o' ∧ OwnOk i o'
  | [], j0, o, _, ho => ⟨o, rfl, ho⟩
  | a :: l, j0, o, ha, ho => by
    obtain ⟨o1, e1, h1⟩ := eps_apart i hi a.eps 0 o (fun _ => false) (by have := ha a List.mem_cons_self; omega) ho (fun a h => by cases h)
    obtain ⟨o2, e2, h2⟩ := alts_apart i hi l (j0 + 1) o1 (fun b hb => ha b (List.mem_cons_of_mem _ hb)) h1
    refine ⟨o2, ?_, h2⟩
    rw [List.mapIdx_cons]
    have e4 : (fun k a => ofAlt i (j0 + (k + 1)) a) = fun k a => ofAlt i (j0 + 1 + k) a := by funext k e; rw [show j0 + (k + 1) = j0 + 1 + k by omega]
    rw [e4]
    unfold altsApart
    simp only [Nat.zero_add] at e1
    have e5 : (ofAlt i (j0 + 0) a).eps = a.eps.mapIdx fun k e => ofEp i k e := rfl
    rw [e5, e1]
    exact e2
theorem ifs_apart : ∀ (l : List (List PA)) (i : Nat) (o : Int → Option Nat), i + l.length ≤ 6 → (∀ x ∈ l, ∀ a ∈ altsOr x, a.eps.length ≤ 4) → OwnOk i o → ifsApart i (l.mapIdx fun k x => (altsOr x).mapIdx fun j a => ofAlt (i + k) j a) o = true
  | [], i, o, _, _, _ => rfl
  | x :: l, i, o, hi, hl, ho => by
    rw [List.length_cons] at hi
    obtain ⟨o1, e1, h1⟩ := alts_apart i (by omega) (altsOr x) 0 o (hl x List.mem_cons_self) ho
    have h2 := ifs_apart l (i + 1) o1 (by omega) (fun y hy => hl y (List.mem_cons_of_mem _ hy)) (fun a j h => by obtain ⟨h3, h4⟩ := h1 a j h; exact ⟨by omega, h4⟩)
    rw [List.mapIdx_cons]
    have e : (fun k x => (altsOr x).mapIdx fun j a => ofAlt (i + (k + 1)) j a) = fun k x => (altsOr x).mapIdx fun j a => ofAlt (i + 1 + k) j a := by funext k x; rw [show i + (k + 1) = i + 1 + k by omega]
    unfold ifsApart
    simp only [Nat.zero_add] at e1
    rw [e, Nat.add_zero, e1]
    exact h2
theorem ofIfs_len (x : PC) : (ofIfs x.ifs).length = (ifsOr x.ifs).length := by unfold ofIfs; simp
theorem of_size {x : PC} (h : bigS x = false) (hx : x.ok) : sizeS (ofS x) ≤ 3129 := by
  have hS := small_of h hx
  have h1 : ((ofIfs x.ifs).map fun l => (l.map altSize).sum).sum ≤ ((ofIfs x.ifs).map fun l => (l.map altSize).sum).length * 520 := by
    refine sum_le _ _ (fun n hn => ?_)
    obtain ⟨l, hl, rfl⟩ := List.mem_map.1 hn
    unfold ofIfs at hl
    obtain ⟨i, hi, rfl⟩ := List.mem_mapIdx.1 hl
    obtain ⟨h2, _, h3⟩ := hS.each _ (List.getElem_mem hi)
    refine Nat.le_trans (sum_le _ 130 (fun n hn => ?_)) (by simp; omega)
    obtain ⟨a, ha, rfl⟩ := List.mem_map.1 hn
    obtain ⟨j, hj, rfl⟩ := List.mem_mapIdx.1 ha
    exact ofAlt_size i j (h3 _ (List.getElem_mem hj))
  have h2 := hS.many.2
  rw [List.length_map, ofIfs_len] at h1
  unfold sizeS ofS
  simp only
  omega
/-- the configuration of plain data is valid -/
theorem of_check {x : PC} (h : bigS x = false) (hx : x.ok) : checkS (ofS x) = 0 := by
  have hS := small_of h hx
  have hz := of_size h hx
  obtain ⟨o1, o2, o3, _⟩ := hx
  unfold u8k at o1 o2 o3
  have hlim : limitS (ofS x) = false := by
    unfold limitS
    simp only [Bool.or_eq_false_iff, decide_eq_false_iff_not, List.any_eq_false, decide_eq_true_eq]
    refine ⟨⟨?_, by omega⟩, fun l hl => ?_⟩
    · show ¬ 16 < (ofIfs x.ifs).length
      rw [ofIfs_len]; have := hS.many; omega
    · change l ∈ ofIfs x.ifs at hl
      unfold ofIfs at hl
      obtain ⟨i, hi, rfl⟩ := List.mem_mapIdx.1 hl
      have := (hS.each _ (List.getElem_mem hi)).1
      simp; omega
  have hval : validS (ofS x) = true := by
    unfold validS
    rw [Bool.and_eq_true]
    constructor
    · unfold okCfg ofS ofD
      simp only [Bool.and_eq_true, decide_eq_true_eq]
      have e : (9 + ((ofIfs x.ifs).map fun l => (l.map altSize).sum).sum) = sizeS (ofS x) := rfl
      rw [e]
      have := hS.many
      refine ⟨⟨⟨⟨⟨?_, by omega⟩, by omega⟩, by omega⟩, by omega⟩, by omega⟩
      unfold sizeS
      omega
    · rw [List.all_eq_true]
      intro l hl
      rw [List.all_eq_true]
      intro a ha
      change l ∈ ofIfs x.ifs at hl
      unfold ofIfs at hl
      obtain ⟨i, hi, rfl⟩ := List.mem_mapIdx.1 hl
      obtain ⟨j, hj, rfl⟩ := List.mem_mapIdx.1 ha
      obtain ⟨h2, _, h3⟩ := hS.each _ (List.getElem_mem hi)
      exact ofAlt_ok i j (h3 _ (List.getElem_mem hj)) (by have := hS.many; omega) (by omega)
  have hcnt : countedS (ofS x) = true := by
    unfold countedS
    simp only [Bool.and_eq_true, decide_eq_true_eq]
    refine ⟨⟨?_, rfl⟩, ?_⟩
    · show ((ifsOr x.ifs).length : Int) = ((ofIfs x.ifs).length : Int)
      rw [ofIfs_len]
    · have := ifs_counted (ifsOr x.ifs) 0
      simp only [Nat.zero_add] at this
      exact this
  have hap : apartS (ofS x) = true := by
    have := ifs_apart (ifsOr x.ifs) 0 (fun _ => none) (by have := hS.many; omega) (fun y hy a ha => ((hS.each y hy).2.2 a ha).2.1) (fun a j h => by cases h)
    simp only [Nat.zero_add] at this
    exact this
  have hem : ((ofS x).ifs.any fun l => l.isEmpty) = false := by
    rw [List.any_eq_false]
    intro l hl
    change l ∈ ofIfs x.ifs at hl
    unfold ofIfs at hl
    obtain ⟨i, hi, rfl⟩ := List.mem_mapIdx.1 hl
    have := (hS.each _ (List.getElem_mem hi)).2.1
    intro e
    rw [List.isEmpty_iff] at e
    have e2 := congrArg List.length e
    rw [List.length_mapIdx, List.length_nil] at e2
    omega
  unfold checkS
  rw [hlim, hval, hcnt, hap, hem]
  rfl
end Go.Proofs.YtjgncofhobhjdaaDoor
/- Parse as data: the bytes of a valid configuration are read again. No condition; nothing of the program. -/
namespace Go.Proofs.YtjgncofhobhjdaaDoor
open Go.RowKit

def byteAt (b : List Int) (i : Nat) : Int := b.getD i 0
def readCfg (b : List Int) : CfgD := ⟨byteAt b 2 + 256 * byteAt b 3, byteAt b 4, byteAt b 5, byteAt b 6, byteAt b 7 / 64 % 2 == 1, byteAt b 7 / 32 % 2 == 1, byteAt b 8⟩
def readIf (b : List Int) : IfD := ⟨byteAt b 2, byteAt b 3, byteAt b 4, byteAt b 5, byteAt b 6, byteAt b 7, byteAt b 8⟩
def readEp (b : List Int) : EpD := ⟨byteAt b 2 % 128, byteAt b 2 / 128 % 2 == 1, byteAt b 3, byteAt b 4 + 256 * byteAt b 5, byteAt b 6⟩
def decCfg (b : List Int) : Option CfgD := if b.length = 9 ∧ okCfg (readCfg b) = true ∧ rawCfg (readCfg b) = b then some (readCfg b) else none
def decIf (b : List Int) : Option IfD := if b.length = 9 ∧ okIf (readIf b) = true ∧ rawIf (readIf b) = b then some (readIf b) else none
def decEp (b : List Int) : Option EpD := if b.length = 7 ∧ okEp (readEp b) = true ∧ rawEp (readEp b) = b then some (readEp b) else none
/-- what is in Extra, and what is left -/
def extraS : List (List Int) → List (List Int) × List (List Int)
  | [] => ([], [])
  | b :: r => if stdS (kindB b) then ([], b :: r) else (b :: (extraS r).1, (extraS r).2)
def epsS : List (List Int) → Option (List EpD × List (List Int))
  | [] => some ([], [])
  | b :: r => if kindB b = 5 then (decEp b).bind fun e => (epsS r).map fun p => (e :: p.1, p.2) else some ([], b :: r)
def addLast : List (List Alt) → Alt → List (List Alt)
  | [], _ => []
  | [l], a => [l ++ [a]]
  | l :: r, a => l :: addLast r a
def altsS : Nat → List (List Int) → List (List Alt) → Option (List (List Alt) × List (List Int))
  | 0, _, _ => none
  | _ + 1, [], acc => some (acc, [])
  | n + 1, b :: r, acc => if kindB b = 4 then
      (decIf b).bind fun d => (epsS (extraS r).2).bind fun p =>
        if (if d.alt = 0 then acc ++ [[]] else acc) = [] then none else altsS n p.2 (addLast (if d.alt = 0 then acc ++ [[]] else acc) ⟨d, (extraS r).1.flatten, p.1⟩)
    else some (acc, b :: r)
def readS (l : List (List Int)) : Option Cfg := match l with
  | [] => none
  | h :: r => (decCfg h).bind fun d => (altsS (r.length + 1) r []).bind fun p => if p.2 = [] ∧ checkS ⟨d, p.1⟩ = 0 then some (fillS ⟨d, p.1⟩) else none
def parseC (b : List Int) : Option Cfg := (divide b).bind readS
def parseE (b : List Int) : Int := if 4096 < b.length then 3 else if (parseC b).isNone then 4 else 0

/-- numbers are in their ranges -/
def CfgD.ok (d : CfgD) : Prop := u16k d.total ∧ u8k d.ifs ∧ u8k d.number ∧ u8k d.text ∧ u8k d.power
def IfD.ok (d : IfD) : Prop := u8k d.num ∧ u8k d.alt ∧ u8k d.eps ∧ u8k d.cls ∧ u8k d.sub ∧ u8k d.proto ∧ u8k d.text
def EpD.ok (e : EpD) : Prop := u8k e.num ∧ u8k e.kind ∧ u16k e.max ∧ u8k e.ivl
def Alt.ok (a : Alt) : Prop := a.d.ok ∧ (∀ z ∈ a.extra, u8k z) ∧ ∀ e ∈ a.eps, e.ok
def Cfg.ok (c : Cfg) : Prop := c.d.ok ∧ ∀ l ∈ c.ifs, ∀ a ∈ l, a.ok

theorem flag_bit (b7 : Bool) (b6 : Bool) : ((128 + (if b7 then 64 else 0) + (if b6 then 32 else 0) : Int) / 64 % 2 == 1) = b7 ∧ ((128 + (if b7 then 64 else 0) + (if b6 then 32 else 0) : Int) / 32 % 2 == 1) = b6 := by
  cases b7 <;> cases b6 <;> decide
theorem dec_rawCfg {d : CfgD} (h : d.ok) (ho : okCfg d = true) : decCfg (rawCfg d) = some d := by
  obtain ⟨⟨h1, h2⟩, _⟩ := h
  have e : readCfg (rawCfg d) = d := by
    obtain ⟨f1, f2⟩ := flag_bit d.self d.wake
    unfold readCfg rawCfg byteAt attrS
    simp only [List.getD_cons_succ, List.getD_cons_zero, f1, f2]
    have : d.total % 256 + 256 * (d.total / 256) = d.total := by omega
    rw [this]
  unfold decCfg
  rw [e, if_pos ⟨rfl, ho, rfl⟩]
theorem dec_rawIf {d : IfD} (ho : okIf d = true) : decIf (rawIf d) = some d := by
  have e : readIf (rawIf d) = d := rfl
  unfold decIf
  rw [e, if_pos ⟨rfl, ho, rfl⟩]
theorem okEp_num {e : EpD} (ho : okEp e = true) : 1 ≤ e.num ∧ e.num ≤ 15 ∧ 1 ≤ e.max ∧ e.max ≤ 1024 ∧ (e.kind = 1 ∨ e.kind = 2 ∨ e.kind = 3) := by
  unfold okEp at ho
  simp only [Bool.and_eq_true, decide_eq_true_eq] at ho
  obtain ⟨⟨⟨⟨h1, h2⟩, h3⟩, h4⟩, h5⟩ := ho
  refine ⟨h1, h2, h3, h4, ?_⟩
  by_cases k2 : e.kind = 2
  · exact .inr (.inl k2)
  · rw [if_neg k2] at h5
    by_cases k1 : e.kind = 1
    · exact .inl k1
    · rw [if_neg k1] at h5
      by_cases k3 : e.kind = 3
      · exact .inr (.inr k3)
      · rw [if_neg k3] at h5; cases h5
theorem addr_parts {n : Int} (h1 : 1 ≤ n) (h2 : n ≤ 15) (i : Bool) : (n % 16 + (if i = true then 128 else 0)) % 128 = n ∧ ((n % 16 + (if i = true then 128 else 0)) / 128 % 2 == (1 : Int)) = i := by
  cases i
  · simp; omega
  · simp; omega
theorem dec_rawEp {d : EpD} (ho : okEp d = true) : decEp (rawEp d) = some d := by
  obtain ⟨h1, h2, h3, h4, _⟩ := okEp_num ho
  have e : readEp (rawEp d) = d := by
    obtain ⟨a1, a2⟩ := addr_parts h1 h2 d.inn
    unfold readEp rawEp byteAt addrS
    simp only [List.getD_cons_succ, List.getD_cons_zero, a1, a2]
    have e1 : d.max % 256 + 256 * (d.max / 256) = d.max := by omega
    rw [e1]
  unfold decEp
  rw [e, if_pos ⟨rfl, ho, rfl⟩]
/-- what dividing tells -/
theorem div_inv : ∀ (n : Nat) (b : List Int) (l : List (List Int)), divS n b = some l → l.flatten = b ∧ ∀ p ∈ l, 2 ≤ p.length ∧ p.head? = some (p.length : Int)
  | 0, b, l, h => by cases h
  | n + 1, [], l, h => by injection h with h; subst h; exact ⟨rfl, fun p hp => by cases hp⟩
  | n + 1, x :: r, l, h => by
    change (if x < 2 ∨ ((x :: r).length : Int) < x then none else (divS n ((x :: r).drop x.toNat)).map fun l => (x :: r).take x.toNat :: l) = some l at h
    by_cases hc : x < 2 ∨ ((x :: r).length : Int) < x
    · rw [if_pos hc] at h; cases h
    · rw [if_neg hc] at h
      cases hd : divS n ((x :: r).drop x.toNat) with
      | none => rw [hd] at h; cases h
      | some m =>
        rw [hd] at h
        injection h with h
        subst h
        obtain ⟨h1, h2⟩ := div_inv n _ m hd
        have hx : 2 ≤ x.toNat ∧ x.toNat ≤ (x :: r).length := by omega
        refine ⟨by rw [List.flatten_cons, h1, List.take_append_drop], fun p hp => ?_⟩
        rcases List.mem_cons.1 hp with rfl | hp
        · rw [List.length_take, Nat.min_eq_left hx.2]
          refine ⟨hx.1, ?_⟩
          obtain ⟨k, hk⟩ : ∃ k, x.toNat = k + 1 := ⟨x.toNat - 1, by omega⟩
          rw [hk, List.take_succ_cons, List.head?_cons]
          congr 1
          omega
        · exact h2 p hp
theorem divide_inv {b : List Int} {l : List (List Int)} (h : divide b = some l) : l.flatten = b ∧ (∀ p ∈ l, 2 ≤ p.length ∧ p.head? = some (p.length : Int)) ∧ b.length ≤ 4096 := by
  unfold divide at h
  by_cases hc : 4096 < b.length
  · rw [if_pos hc] at h; cases h
  · rw [if_neg hc] at h
    obtain ⟨h1, h2⟩ := div_inv _ _ _ h
    exact ⟨h1, h2, by omega⟩
theorem extra_pieces {x : List Int} (h : extraOk x = true) : ∃ l, divide x = some l ∧ l.flatten = x ∧ (∀ p ∈ l, 2 ≤ p.length ∧ p.head? = some (p.length : Int)) ∧ ∀ p ∈ l, stdS (kindB p) = false := by
  unfold extraOk at h
  cases hd : divide x with
  | none => rw [hd] at h; cases h
  | some l =>
    rw [hd] at h
    obtain ⟨h1, h2, _⟩ := divide_inv hd
    refine ⟨l, rfl, h1, h2, fun p hp => ?_⟩
    have := List.all_eq_true.1 h p hp
    simpa using this
end Go.Proofs.YtjgncofhobhjdaaDoor
/- The bytes of a valid configuration are read again. No condition; nothing of the program. -/
namespace Go.Proofs.YtjgncofhobhjdaaDoor
open Go.RowKit

def descsA (a : Alt) : List (List Int) := rawIf a.d :: ((divide a.extra).getD [] ++ a.eps.map rawEp)
def descsI (l : List Alt) : List (List Int) := l.flatMap descsA
def descsS (c : Cfg) : List (List Int) := rawCfg c.d :: c.ifs.flatMap descsI
structure AltGood (a : Alt) (l : List (List Int)) : Prop where
  div : divide a.extra = some l
  flat : l.flatten = a.extra
  heads : ∀ p ∈ l, 2 ≤ p.length ∧ p.head? = some (p.length : Int)
  kinds : ∀ p ∈ l, stdS (kindB p) = false
  iface : okIf a.d = true
  eps : ∀ e ∈ a.eps, okEp e = true
theorem alt_good {a : Alt} (h : altOk a = true) : ∃ l, AltGood a l := by
  unfold altOk at h
  simp only [Bool.and_eq_true] at h
  obtain ⟨l, h1, h2, h3, h4⟩ := extra_pieces h.1.2
  exact ⟨l, h1, h2, h3, h4, h.1.1, List.all_eq_true.1 h.2⟩
theorem descsA_eq {a : Alt} {l : List (List Int)} (h : AltGood a l) : descsA a = rawIf a.d :: (l ++ a.eps.map rawEp) := by unfold descsA; rw [h.div]; rfl
theorem encEp_raw {e : EpD} (h : okEp e = true) : encEp e = rawEp e := by unfold encEp; rw [if_pos h]
theorem eps_flat {l : List EpD} (h : ∀ e ∈ l, okEp e = true) : l.flatMap encEp = (l.map rawEp).flatten := by
  induction l with
  | nil => rfl
  | cons e l ih => rw [List.flatMap_cons, List.map_cons, List.flatten_cons, encEp_raw (h e List.mem_cons_self), ih (fun x hx => h x (List.mem_cons_of_mem _ hx))]
theorem descsA_flat {a : Alt} (h : altOk a = true) : (descsA a).flatten = altBytes a := by
  obtain ⟨l, hl⟩ := alt_good h
  rw [descsA_eq hl, List.flatten_cons, List.flatten_append, hl.flat, ← eps_flat hl.eps]
  unfold altBytes encIf
  rw [if_pos hl.iface, List.append_assoc]
theorem descsA_heads {a : Alt} (h : altOk a = true) : ∀ p ∈ descsA a, 2 ≤ p.length ∧ p.head? = some (p.length : Int) := by
  obtain ⟨l, hl⟩ := alt_good h
  rw [descsA_eq hl]
  intro p hp
  rcases List.mem_cons.1 hp with rfl | hp
  · exact ⟨by show 2 ≤ 9; decide, rfl⟩
  · rcases List.mem_append.1 hp with hp | hp
    · exact hl.heads p hp
    · obtain ⟨e, _, rfl⟩ := List.mem_map.1 hp
      exact ⟨by show 2 ≤ 7; decide, rfl⟩
theorem flatMap_flat {α : Type} (f : α → List (List Int)) (g : α → List Int) : ∀ (l : List α), (∀ a ∈ l, (f a).flatten = g a) → (l.flatMap f).flatten = l.flatMap g
  | [], _ => rfl
  | a :: l, h => by rw [List.flatMap_cons, List.flatMap_cons, List.flatten_append, h a List.mem_cons_self, flatMap_flat f g l (fun x hx => h x (List.mem_cons_of_mem _ hx))]
structure ValidC (c : Cfg) : Prop where
  d : okCfg c.d = true
  alts : ∀ l ∈ c.ifs, ∀ a ∈ l, altOk a = true
theorem valid_of {c : Cfg} (h : validS c = true) : ValidC c := by
  unfold validS at h
  rw [Bool.and_eq_true] at h
  exact ⟨h.1, fun l hl a ha => List.all_eq_true.1 (List.all_eq_true.1 h.2 l hl) a ha⟩
theorem descs_flat {c : Cfg} (h : ValidC c) : (descsS c).flatten = bytesS c := by
  unfold descsS bytesS
  rw [List.flatten_cons]
  have e : (c.ifs.flatMap descsI).flatten = c.ifs.flatMap ifBytes := flatMap_flat _ _ _ fun l hl => flatMap_flat _ _ _ fun a ha => descsA_flat (h.alts l hl a ha)
  rw [e]
  unfold encCfg
  rw [if_pos h.d]
theorem descs_heads {c : Cfg} (h : ValidC c) : ∀ p ∈ descsS c, 2 ≤ p.length ∧ p.head? = some (p.length : Int) := by
  intro p hp
  rcases List.mem_cons.1 hp with rfl | hp
  · exact ⟨by show 2 ≤ 9; decide, rfl⟩
  · obtain ⟨l, hl, hp⟩ := List.mem_flatMap.1 hp
    obtain ⟨a, ha, hp⟩ := List.mem_flatMap.1 hp
    exact descsA_heads (h.alts l hl a ha) p hp
theorem flatMap_len {α : Type} (f : α → List Int) (n : α → Nat) : ∀ (l : List α), (∀ a ∈ l, (f a).length = n a) → (l.flatMap f).length = (l.map n).sum
  | [], _ => rfl
  | a :: l, h => by rw [List.flatMap_cons, List.length_append, List.map_cons, List.sum_cons, h a List.mem_cons_self, flatMap_len f n l (fun x hx => h x (List.mem_cons_of_mem _ hx))]
theorem altBytes_len {a : Alt} (h : altOk a = true) : (altBytes a).length = altSize a := by
  obtain ⟨l, hl⟩ := alt_good h
  unfold altBytes encIf altSize
  rw [if_pos hl.iface, List.length_append, List.length_append]
  have h1 := flatMap_len encEp (fun _ => 7) a.eps (fun e he => by rw [encEp_raw (hl.eps e he)]; rfl)
  have h2 : (a.eps.map fun _ => 7).sum = 7 * a.eps.length := by
    induction a.eps with
    | nil => rfl
    | cons e l ih => rw [List.map_cons, List.sum_cons, ih, List.length_cons]; omega
  rw [h1, h2]
  rfl
theorem bytes_len {c : Cfg} (h : ValidC c) : (bytesS c).length = sizeS c := by
  unfold bytesS sizeS encCfg
  rw [if_pos h.d, List.length_append]
  have := flatMap_len ifBytes (fun l => (l.map altSize).sum) c.ifs (fun l hl => flatMap_len altBytes altSize l (fun a ha => altBytes_len (h.alts l hl a ha)))
  rw [this]
  rfl
theorem flatten_len : ∀ (L : List (List Int)), (∀ b ∈ L, 1 ≤ b.length) → L.length ≤ L.flatten.length
  | [], _ => by simp
  | b :: L, h => by
    have h1 := h b List.mem_cons_self
    have h2 := flatten_len L (fun c hc => h c (List.mem_cons_of_mem _ hc))
    rw [List.flatten_cons, List.length_append, List.length_cons]
    omega
theorem divide_bytes {c : Cfg} (h : ValidC c) (hz : sizeS c ≤ 4096) : divide (bytesS c) = some (descsS c) := by
  have h1 := bytes_len h
  unfold divide
  rw [if_neg (by omega), ← descs_flat h]
  refine div_flat _ _ (descs_heads h) ?_
  have := flatten_len (descsS c) (fun b hb => by have := (descs_heads h b hb).1; omega)
  omega
/-- what follows a setting -/
def Stops (t : List (List Int)) : Prop := t = [] ∨ ∃ b r, t = b :: r ∧ kindB b = 4
theorem extra_take : ∀ {l t : List (List Int)}, (∀ p ∈ l, stdS (kindB p) = false) → (t = [] ∨ ∃ b r, t = b :: r ∧ stdS (kindB b) = true) → extraS (l ++ t) = (l, t)
  | [], t, _, ht => by
    rcases ht with rfl | ⟨b, r, rfl, h⟩
    · rfl
    · show (if stdS (kindB b) then _ else _) = _
      rw [if_pos h]
  | p :: l, t, h, ht => by
    have ih := extra_take (fun q hq => h q (List.mem_cons_of_mem _ hq)) ht
    show (if stdS (kindB p) then _ else (p :: (extraS (l ++ t)).1, (extraS (l ++ t)).2)) = _
    rw [if_neg (by rw [h p List.mem_cons_self]; simp), ih]
theorem eps_take : ∀ {es : List EpD} {t : List (List Int)}, (∀ e ∈ es, okEp e = true) → Stops t → epsS (es.map rawEp ++ t) = some (es, t)
  | [], t, _, ht => by
    rcases ht with rfl | ⟨b, r, rfl, h⟩
    · rfl
    · show (if kindB b = 5 then _ else _) = _
      rw [if_neg (by omega)]
  | e :: es, t, h, ht => by
    have ih := eps_take (fun q hq => h q (List.mem_cons_of_mem _ hq)) ht
    show (if kindB (rawEp e) = 5 then (decEp (rawEp e)).bind fun e => (epsS (es.map rawEp ++ t)).map fun p => (e :: p.1, p.2) else _) = _
    rw [if_pos (show kindB (rawEp e) = 5 from rfl), dec_rawEp (h e List.mem_cons_self), ih]
    rfl
theorem alt_step {a : Alt} (h : altOk a = true) {t : List (List Int)} (ht : Stops t) (n : Nat) (acc : List (List Alt)) :
    altsS (n + 1) (descsA a ++ t) acc = if (if a.d.alt = 0 then acc ++ [[]] else acc) = [] then none else altsS n t (addLast (if a.d.alt = 0 then acc ++ [[]] else acc) a) := by
  obtain ⟨l, hl⟩ := alt_good h
  rw [descsA_eq hl, List.cons_append, List.append_assoc]
  have h1 : extraS (l ++ (a.eps.map rawEp ++ t)) = (l, a.eps.map rawEp ++ t) := extra_take hl.kinds (by
    cases he : a.eps with
    | nil =>
      rcases ht with rfl | ⟨b, r, rfl, h⟩
      · exact .inl rfl
      · exact .inr ⟨b, r, rfl, by unfold stdS; rw [h]; rfl⟩
    | cons e es => exact .inr ⟨_, _, rfl, rfl⟩)
  show (if kindB (rawIf a.d) = 4 then (decIf (rawIf a.d)).bind fun d => (epsS (extraS (l ++ (a.eps.map rawEp ++ t))).2).bind fun p => _ else _) = _
  rw [if_pos (show kindB (rawIf a.d) = 4 from rfl), dec_rawIf hl.iface, h1]
  show (epsS (a.eps.map rawEp ++ t)).bind _ = _
  rw [eps_take hl.eps ht]
  show (if (if a.d.alt = 0 then acc ++ [[]] else acc) = [] then none else altsS n t (addLast (if a.d.alt = 0 then acc ++ [[]] else acc) ⟨a.d, l.flatten, a.eps⟩)) = _
  rw [hl.flat]
theorem addLast_snoc : ∀ (acc : List (List Alt)) (m : List Alt) (a : Alt), addLast (acc ++ [m]) a = acc ++ [m ++ [a]]
  | [], m, a => rfl
  | [x], m, a => rfl
  | x :: y :: acc, m, a => by
    have := addLast_snoc (y :: acc) m a
    show x :: addLast (y :: acc ++ [m]) a = _
    rw [this]
    rfl
theorem stops_descs {l : List Alt} {t : List (List Int)} (ht : Stops t) : Stops (l.flatMap descsA ++ t) := by
  cases l with
  | nil => exact ht
  | cons a l => exact .inr ⟨_, _, rfl, rfl⟩
theorem alts_run (i : Nat) : ∀ (l : List Alt) (j n : Nat) (acc : List (List Alt)) (m : List Alt) (t : List (List Int)), 1 ≤ j → altsCounted i j l = true → (∀ a ∈ l, altOk a = true) → Stops t →
    altsS (l.length + n) (l.flatMap descsA ++ t) (acc ++ [m]) = altsS n t (acc ++ [m ++ l])
  | [], j, n, acc, m, t, _, _, _, _ => by rw [List.append_nil, List.length_nil, Nat.zero_add]; rfl
  | a :: l, j, n, acc, m, t, hj, hc, hl, ht => by
    unfold altsCounted at hc
    simp only [Bool.and_eq_true, decide_eq_true_eq] at hc
    rw [List.flatMap_cons, List.append_assoc, List.length_cons, show l.length + 1 + n = (l.length + n) + 1 by omega]
    rw [alt_step (hl a List.mem_cons_self) (stops_descs ht)]
    rw [if_neg (by omega : ¬ a.d.alt = 0), if_neg (by simp), addLast_snoc, alts_run i l (j + 1) n acc (m ++ [a]) t (by omega) hc.2 (fun b hb => hl b (List.mem_cons_of_mem _ hb)) ht, List.append_assoc]
    rfl
theorem if_run (i : Nat) {l : List Alt} (hne : l ≠ []) (hc : altsCounted i 0 l = true) (hl : ∀ a ∈ l, altOk a = true) (n : Nat) (acc : List (List Alt)) {t : List (List Int)} (ht : Stops t) :
    altsS (l.length + n) (l.flatMap descsA ++ t) acc = altsS n t (acc ++ [l]) := by
  cases l with
  | nil => exact absurd rfl hne
  | cons a l =>
    unfold altsCounted at hc
    simp only [Bool.and_eq_true, decide_eq_true_eq] at hc
    rw [List.flatMap_cons, List.append_assoc, List.length_cons, show l.length + 1 + n = (l.length + n) + 1 by omega]
    rw [alt_step (hl a List.mem_cons_self) (stops_descs ht)]
    rw [if_pos (by omega : a.d.alt = 0), if_neg (by simp), addLast_snoc, alts_run i l 1 n acc ([] ++ [a]) t (by omega) hc.2 (fun b hb => hl b (List.mem_cons_of_mem _ hb)) ht]
    rfl
theorem stops_ifs : ∀ {l : List (List Alt)}, (∀ x ∈ l, x ≠ []) → Stops (l.flatMap descsI)
  | [], _ => .inl rfl
  | x :: l, h => by
    cases x with
    | nil => exact absurd rfl (h _ List.mem_cons_self)
    | cons a x => exact .inr ⟨_, _, rfl, rfl⟩
theorem ifs_run : ∀ (l : List (List Alt)) (i n : Nat) (acc : List (List Alt)), (∀ x ∈ l, x ≠ []) → ifsCounted i l = true → (∀ x ∈ l, ∀ a ∈ x, altOk a = true) →
    altsS ((l.map List.length).sum + (n + 1)) (l.flatMap descsI) acc = some (acc ++ l, [])
  | [], i, n, acc, _, _, _ => by simp [altsS]
  | x :: l, i, n, acc, hne, hc, hl => by
    unfold ifsCounted at hc
    rw [Bool.and_eq_true] at hc
    rw [List.map_cons, List.sum_cons, List.flatMap_cons, Nat.add_assoc]
    show altsS (x.length + _) (x.flatMap descsA ++ l.flatMap descsI) acc = _
    rw [if_run i (hne x List.mem_cons_self) hc.1 (hl x List.mem_cons_self) _ acc (stops_ifs fun y hy => hne y (List.mem_cons_of_mem _ hy))]
    rw [ifs_run l (i + 1) n (acc ++ [x]) (fun y hy => hne y (List.mem_cons_of_mem _ hy)) hc.2 (fun y hy => hl y (List.mem_cons_of_mem _ hy)), List.append_assoc]
    rfl
theorem fillAlts_same (i : Nat) : ∀ (l : List Alt) (j : Nat), altsCounted i j l = true → i < 256 → j + l.length ≤ 256 → (∀ a ∈ l, a.eps.length < 256) → (l.mapIdx fun k a => fillAlt i (j + k) a) = l
  | [], _, _, _, _, _ => rfl
  | a :: l, j, hc, hi, hj, he => by
    unfold altsCounted at hc
    simp only [Bool.and_eq_true, decide_eq_true_eq] at hc
    rw [List.length_cons] at hj
    rw [List.mapIdx_cons]
    have e : (fun k a => fillAlt i (j + (k + 1)) a) = fun k a => fillAlt i (j + 1 + k) a := by funext k a; rw [show j + (k + 1) = j + 1 + k by omega]
    rw [e, fillAlts_same i l (j + 1) hc.2 hi (by omega) (fun b hb => he b (List.mem_cons_of_mem _ hb))]
    congr 1
    obtain ⟨⟨num, alt, eps, cls, sub, pr, tx⟩, ex, es⟩ := a
    have h1 := he _ List.mem_cons_self
    unfold fillAlt
    simp only at hc h1 ⊢
    obtain ⟨⟨⟨h2, h3⟩, h4⟩, _⟩ := hc
    rw [h2, h3, h4]
    rw [show (i : Int) % 256 = i by omega, show ((j + 0 : Nat) : Int) % 256 = j by omega, show (es.length : Int) % 256 = es.length by omega]
theorem fillIfs_same : ∀ (l : List (List Alt)) (i : Nat), ifsCounted i l = true → i + l.length ≤ 256 → (∀ x ∈ l, x.length ≤ 256 ∧ ∀ a ∈ x, a.eps.length < 256) → (l.mapIdx fun k x => x.mapIdx fun j a => fillAlt (i + k) j a) = l
  | [], _, _, _, _ => rfl
  | x :: l, i, hc, hi, he => by
    unfold ifsCounted at hc
    rw [Bool.and_eq_true] at hc
    rw [List.length_cons] at hi
    rw [List.mapIdx_cons]
    have e : (fun (k : Nat) (x : List Alt) => x.mapIdx fun j a => fillAlt (i + (k + 1)) j a) = fun k x => x.mapIdx fun j a => fillAlt (i + 1 + k) j a := by funext k a; rw [show i + (k + 1) = i + 1 + k by omega]
    rw [e, fillIfs_same l (i + 1) hc.2 (by omega) (fun b hb => he b (List.mem_cons_of_mem _ hb))]
    obtain ⟨h1, h2⟩ := he x List.mem_cons_self
    have := fillAlts_same i x 0 hc.1 (by omega) (by omega) h2
    simp only [Nat.zero_add] at this
    rw [Nat.add_zero, this]
/-- what Check tells -/
structure CheckC (c : Cfg) : Prop where
  many : c.ifs.length ≤ 16
  size : sizeS c ≤ 4096
  each : ∀ l ∈ c.ifs, l.length ≤ 16 ∧ l ≠ []
  valid : ValidC c
  ifs : c.d.ifs = (c.ifs.length : Int)
  total : c.d.total = (sizeS c : Int)
  counted : ifsCounted 0 c.ifs = true
  apart : apartS c = true
theorem check_of {c : Cfg} (h : checkS c = 0) : CheckC c := by
  unfold checkS at h
  by_cases hl : limitS c = true
  · rw [if_pos hl] at h; cases h
  · rw [if_neg hl] at h
    have hl2 : limitS c = false := by simpa using hl
    unfold limitS at hl2
    simp only [Bool.or_eq_false_iff, decide_eq_false_iff_not, List.any_eq_false, decide_eq_true_eq] at hl2
    by_cases hv : (validS c && countedS c && apartS c && !(c.ifs.any fun l => l.isEmpty)) = true
    · simp only [Bool.and_eq_true] at hv
      obtain ⟨⟨⟨v1, v2⟩, v3⟩, v4⟩ := hv
      unfold countedS at v2
      simp only [Bool.and_eq_true, decide_eq_true_eq] at v2
      simp only [Bool.not_eq_true', List.any_eq_false] at v4
      refine ⟨by omega, by omega, fun l hl => ⟨by have := hl2.2 l hl; omega, fun e => v4 l hl (by rw [e]; rfl)⟩, valid_of v1, v2.1.1, v2.1.2, v2.2, v3⟩
    · rw [if_neg hv] at h; cases h
theorem counted_eps (i : Nat) : ∀ (l : List Alt) (j : Nat), altsCounted i j l = true → ∀ a ∈ l, a.d.eps = (a.eps.length : Int)
  | [], _, _, a, ha => by cases ha
  | b :: l, j, h, a, ha => by
    unfold altsCounted at h
    simp only [Bool.and_eq_true, decide_eq_true_eq] at h
    rcases List.mem_cons.1 ha with rfl | ha
    · exact h.1.2
    · exact counted_eps i l (j + 1) h.2 a ha
theorem counted_all : ∀ (l : List (List Alt)) (i : Nat), ifsCounted i l = true → ∀ x ∈ l, ∀ a ∈ x, a.d.eps = (a.eps.length : Int)
  | [], _, _, x, hx => by cases hx
  | y :: l, i, h, x, hx => by
    unfold ifsCounted at h
    rw [Bool.and_eq_true] at h
    rcases List.mem_cons.1 hx with rfl | hx
    · exact counted_eps i _ 0 h.1
    · exact counted_all l (i + 1) h.2 x hx
theorem alt_eps_le {c : Cfg} (h : CheckC c) : ∀ x ∈ c.ifs, ∀ a ∈ x, a.eps.length < 256 := by
  intro x hx a ha
  obtain ⟨l, hl⟩ := alt_good (h.valid.alts x hx a ha)
  have h30 := hl.iface
  unfold okIf at h30
  simp only [Bool.and_eq_true, decide_eq_true_eq] at h30
  have := counted_all c.ifs 0 h.counted x hx a ha
  omega
theorem fill_same {c : Cfg} (h : CheckC c) : fillS c = c := by
  have h1 := h.valid.d
  unfold okCfg at h1
  simp only [Bool.and_eq_true, decide_eq_true_eq] at h1
  have h2 := fillIfs_same c.ifs 0 h.counted (by have := h.many; omega) (fun x hx => ⟨by have := (h.each x hx).1; omega, alt_eps_le h x hx⟩)
  simp only [Nat.zero_add] at h2
  have hz := h.size
  have hm := h.many
  obtain ⟨⟨tot, ifs, num, tx, se, wa, po⟩, L⟩ := c
  unfold fillS fillIfs
  have e1 := h.ifs
  have e2 := h.total
  simp only at h1 h2 e1 e2 hm ⊢
  rw [h2, if_neg (by omega), e1, e2]
  rw [show (L.length : Int) % 256 = L.length by omega]
  unfold sizeS at *
  simp only at *
  congr 2
  omega
theorem altsS_mono : ∀ (n : Nat) (r : List (List Int)) (acc : List (List Alt)) (x : List (List Alt) × List (List Int)), altsS n r acc = some x → altsS (n + 1) r acc = some x
  | 0, r, acc, x, h => by cases h
  | n + 1, [], acc, x, h => h
  | n + 1, b :: r, acc, x, h => by
    unfold altsS at h ⊢
    by_cases hk : kindB b = 4
    · rw [if_pos hk] at h ⊢
      cases hd : decIf b with
      | none => rw [hd] at h; cases h
      | some d =>
        rw [hd] at h
        change (epsS (extraS r).2).bind _ = some x at h
        show (epsS (extraS r).2).bind _ = some x
        cases he : epsS (extraS r).2 with
        | none => rw [he] at h; cases h
        | some p =>
          rw [he] at h
          change (if _ then _ else _) = some x at h
          show (if _ then _ else _) = some x
          by_cases hc : (if d.alt = 0 then acc ++ [[]] else acc) = []
          · rw [if_pos hc] at h; cases h
          · rw [if_neg hc] at h ⊢
            exact altsS_mono n _ _ _ h
    · rw [if_neg hk] at h ⊢; exact h
theorem altsS_more {n : Nat} {r : List (List Int)} {acc : List (List Alt)} {x : List (List Alt) × List (List Int)} (h : altsS n r acc = some x) : ∀ k, altsS (n + k) r acc = some x
  | 0 => h
  | k + 1 => altsS_mono _ _ _ _ (altsS_more h k)
/-- the bytes of a valid configuration are read again -/
theorem parse_bytes {c : Cfg} (hc : checkS c = 0) (hok : c.ok) : parseC (bytesS c) = some c := by
  have h := check_of hc
  unfold parseC
  rw [divide_bytes h.valid h.size]
  show readS (descsS c) = some c
  unfold descsS readS
  simp only
  rw [dec_rawCfg hok.1 h.valid.d]
  have h1 := ifs_run c.ifs 0 0 [] (fun x hx => (h.each x hx).2) h.counted h.valid.alts
  have hlen : (c.ifs.map List.length).sum ≤ (c.ifs.flatMap descsI).length := by
    have : ∀ l : List (List Alt), (l.map List.length).sum ≤ (l.flatMap descsI).length := by
      intro l
      induction l with
      | nil => simp
      | cons x l ih =>
        rw [List.map_cons, List.sum_cons, List.flatMap_cons, List.length_append]
        have : x.length ≤ (descsI x).length := by
          unfold descsI
          clear ih
          induction x with
          | nil => simp
          | cons a x ih => 
            rw [List.flatMap_cons, List.length_append, List.length_cons]
            have : 1 ≤ (descsA a).length := by unfold descsA; rw [List.length_cons]; omega
            omega
        omega
    exact this c.ifs
  have h2 := altsS_more h1 ((c.ifs.flatMap descsI).length - (c.ifs.map List.length).sum)
  rw [show (c.ifs.map List.length).sum + (0 + 1) + ((c.ifs.flatMap descsI).length - (c.ifs.map List.length).sum) = (c.ifs.flatMap descsI).length + 1 by omega] at h2
  show (altsS ((c.ifs.flatMap descsI).length + 1) (c.ifs.flatMap descsI) []).bind _ = some c
  rw [h2]
  show (if _ then _ else _) = some c
  have e : (⟨c.d, [] ++ c.ifs⟩ : Cfg) = c := rfl
  rw [if_pos ⟨rfl, hc⟩]
  show some (fillS c) = some c
  rw [fill_same h]
end Go.Proofs.YtjgncofhobhjdaaDoor
