/- Configurations as plain data, continued. -/
import Derived.Test.YtjgncofhobhjdaaDoorN2
import Derived.Lib.ItoaLen
import Derived.Lib.Join
set_option linter.unusedVariables false
set_option linter.unusedSimpArgs false
set_option linter.unusedSectionVars false
/- What Parse accepts are the bytes of the configuration that it returns. No condition; nothing of the program. -/
namespace Go.Proofs.YtjgncofhobhjdaaDoor
open Go.RowKit

def rawAlt (a : Alt) : List Int := rawIf a.d ++ a.extra ++ a.eps.flatMap rawEp
def rawI (l : List Alt) : List Int := l.flatMap rawAlt
/-- the law's bytes -/
def toldS (c : Cfg) : List Int := rawCfg c.d ++ c.ifs.flatMap rawI
theorem eps_raw {l : List EpD} (h : ∀ e ∈ l, okEp e = true) : l.flatMap encEp = l.flatMap rawEp := by
  induction l with
  | nil => rfl
  | cons e l ih => rw [List.flatMap_cons, List.flatMap_cons, encEp_raw (h e List.mem_cons_self), ih (fun x hx => h x (List.mem_cons_of_mem _ hx))]
theorem altBytes_raw {a : Alt} (h : altOk a = true) : altBytes a = rawAlt a := by
  obtain ⟨l, hl⟩ := alt_good h
  unfold altBytes rawAlt encIf
  rw [if_pos hl.iface, eps_raw hl.eps]
theorem flatMap_congr {α : Type} {f g : α → List Int} : ∀ (l : List α), (∀ a ∈ l, f a = g a) → l.flatMap f = l.flatMap g
  | [], _ => rfl
  | a :: l, h => by rw [List.flatMap_cons, List.flatMap_cons, h a List.mem_cons_self, flatMap_congr l (fun x hx => h x (List.mem_cons_of_mem _ hx))]
/-- of a valid configuration, the law's bytes are the bytes -/
theorem bytes_told {c : Cfg} (h : ValidC c) : bytesS c = toldS c := by
  unfold bytesS toldS encCfg
  rw [if_pos h.d]
  congr 1
  exact flatMap_congr _ fun l hl => flatMap_congr _ fun a ha => altBytes_raw (h.alts l hl a ha)
theorem extra_inv : ∀ (r : List (List Int)), r.flatten = (extraS r).1.flatten ++ (extraS r).2.flatten
  | [] => rfl
  | b :: r => by
    have ih := extra_inv r
    unfold extraS
    by_cases h : stdS (kindB b) = true
    · rw [if_pos h]; rfl
    · rw [if_neg h, List.flatten_cons, ih, List.flatten_cons, List.append_assoc]
theorem eps_inv : ∀ (r : List (List Int)) (es : List EpD) (t : List (List Int)), epsS r = some (es, t) → r.flatten = es.flatMap rawEp ++ t.flatten
  | [], es, t, h => by injection h with h; injection h with h1 h2; subst h1 h2; rfl
  | b :: r, es, t, h => by
    unfold epsS at h
    by_cases hk : kindB b = 5
    · rw [if_pos hk] at h
      cases hd : decEp b with
      | none => rw [hd] at h; cases h
      | some e =>
        rw [hd] at h
        change (epsS r).map _ = some (es, t) at h
        cases he : epsS r with
        | none => rw [he] at h; cases h
        | some p =>
          rw [he] at h
          injection h with h
          injection h with h1 h2
          subst h1 h2
          have ih := eps_inv r p.1 p.2 he
          have hb : rawEp e = b := by
            unfold decEp at hd
            by_cases hc : b.length = 7 ∧ okEp (readEp b) = true ∧ rawEp (readEp b) = b
            · rw [if_pos hc] at hd; injection hd with hd; rw [← hd]; exact hc.2.2
            · rw [if_neg hc] at hd; cases hd
          rw [List.flatten_cons, ih, List.flatMap_cons, hb, List.append_assoc]
    · rw [if_neg hk] at h
      injection h with h
      injection h with h1 h2
      subst h1 h2
      rfl
theorem decIf_raw {b : List Int} {d : IfD} (h : decIf b = some d) : rawIf d = b ∧ d = readIf b := by
  unfold decIf at h
  by_cases hc : b.length = 9 ∧ okIf (readIf b) = true ∧ rawIf (readIf b) = b
  · rw [if_pos hc] at h; injection h with h; rw [← h]; exact ⟨hc.2.2, rfl⟩
  · rw [if_neg hc] at h; cases h
theorem decCfg_raw {b : List Int} {d : CfgD} (h : decCfg b = some d) : rawCfg d = b ∧ d = readCfg b := by
  unfold decCfg at h
  by_cases hc : b.length = 9 ∧ okCfg (readCfg b) = true ∧ rawCfg (readCfg b) = b
  · rw [if_pos hc] at h; injection h with h; rw [← h]; exact ⟨hc.2.2, rfl⟩
  · rw [if_neg hc] at h; cases h
theorem decEp_raw {b : List Int} {d : EpD} (h : decEp b = some d) : rawEp d = b ∧ d = readEp b := by
  unfold decEp at h
  by_cases hc : b.length = 7 ∧ okEp (readEp b) = true ∧ rawEp (readEp b) = b
  · rw [if_pos hc] at h; injection h with h; rw [← h]; exact ⟨hc.2.2, rfl⟩
  · rw [if_neg hc] at h; cases h
theorem addLast_raw : ∀ {acc : List (List Alt)} (a : Alt), acc ≠ [] → (addLast acc a).flatMap rawI = acc.flatMap rawI ++ rawAlt a
  | [], _, h => absurd rfl h
  | [l], a, _ => by
    show ([l ++ [a]] : List (List Alt)).flatMap rawI = [l].flatMap rawI ++ rawAlt a
    simp [rawI]
  | x :: y :: acc, a, _ => by
    have := addLast_raw (acc := y :: acc) a (by simp)
    show (x :: addLast (y :: acc) a).flatMap rawI = _
    rw [List.flatMap_cons, this, List.flatMap_cons (xs := y :: acc), List.append_assoc]
/-- a property of all settings is kept -/
theorem addLast_all {P : Alt → Prop} : ∀ {acc : List (List Alt)} {a : Alt}, (∀ x ∈ acc, ∀ b ∈ x, P b) → P a → ∀ x ∈ addLast acc a, ∀ b ∈ x, P b
  | [], a, _, _, x, hx => by cases hx
  | [l], a, h, ha, x, hx => by
    change x ∈ [l ++ [a]] at hx
    rw [List.mem_singleton.1 hx]
    intro b hb
    rcases List.mem_append.1 hb with hb | hb
    · exact h l List.mem_cons_self b hb
    · rw [List.mem_singleton.1 hb]; exact ha
  | y :: z :: acc, a, h, ha, x, hx => by
    change x ∈ y :: addLast (z :: acc) a at hx
    rcases List.mem_cons.1 hx with rfl | hx
    · exact h x List.mem_cons_self
    · exact addLast_all (fun w hw => h w (List.mem_cons_of_mem _ hw)) ha x hx
theorem byteAt_u8 {b : List Int} (h : ∀ z ∈ b, u8k z) (i : Nat) : u8k (byteAt b i) := by
  unfold byteAt
  by_cases hi : i < b.length
  · rw [List.getD_eq_getElem?_getD, List.getElem?_eq_getElem hi]; exact h _ (List.getElem_mem hi)
  · rw [List.getD_eq_getElem?_getD, List.getElem?_eq_none (by omega)]; exact ⟨by decide, by decide⟩
theorem readIf_ok {b : List Int} (h : ∀ z ∈ b, u8k z) : (readIf b).ok := ⟨byteAt_u8 h _, byteAt_u8 h _, byteAt_u8 h _, byteAt_u8 h _, byteAt_u8 h _, byteAt_u8 h _, byteAt_u8 h _⟩
theorem readEp_ok {b : List Int} (h : ∀ z ∈ b, u8k z) : (readEp b).ok := by
  have h2 := byteAt_u8 h 2
  have h4 := byteAt_u8 h 4
  have h5 := byteAt_u8 h 5
  unfold u8k at h2 h4 h5
  refine ⟨?_, byteAt_u8 h _, ?_, byteAt_u8 h _⟩
  · show u8k (byteAt b 2 % 128); unfold u8k; omega
  · show u16k (byteAt b 4 + 256 * byteAt b 5); unfold u16k; omega
theorem readCfg_ok {b : List Int} (h : ∀ z ∈ b, u8k z) : (readCfg b).ok := by
  have h2 := byteAt_u8 h 2
  have h3 := byteAt_u8 h 3
  unfold u8k at h2 h3
  refine ⟨?_, byteAt_u8 h _, byteAt_u8 h _, byteAt_u8 h _, byteAt_u8 h _⟩
  show u16k (byteAt b 2 + 256 * byteAt b 3); unfold u16k; omega
abbrev Bytes8 (r : List (List Int)) : Prop := ∀ p ∈ r, ∀ z ∈ p, u8k z
theorem extra_8 : ∀ {r : List (List Int)}, Bytes8 r → Bytes8 (extraS r).1 ∧ Bytes8 (extraS r).2
  | [], _ => ⟨fun p hp => (by cases hp), fun p hp => (by cases hp)⟩
  | b :: r, h => by
    have ih := extra_8 (r := r) (fun p hp => h p (List.mem_cons_of_mem _ hp))
    unfold extraS
    by_cases hs : stdS (kindB b) = true
    · rw [if_pos hs]; exact ⟨fun p hp => (by cases hp), h⟩
    · rw [if_neg hs]
      refine ⟨fun p hp => ?_, ih.2⟩
      rcases List.mem_cons.1 hp with rfl | hp
      · exact h p List.mem_cons_self
      · exact ih.1 p hp
theorem eps_8 : ∀ {r : List (List Int)} {es : List EpD} {t : List (List Int)}, Bytes8 r → epsS r = some (es, t) → (∀ e ∈ es, e.ok) ∧ Bytes8 t
  | [], es, t, _, h => by injection h with h; injection h with h1 h2; subst h1 h2; exact ⟨fun e he => (by cases he), fun e he => (by cases he)⟩
  | b :: r, es, t, hb, h => by
    unfold epsS at h
    by_cases hk : kindB b = 5
    · rw [if_pos hk] at h
      cases hd : decEp b with
      | none => rw [hd] at h; cases h
      | some e =>
        rw [hd] at h
        change (epsS r).map _ = some (es, t) at h
        cases he : epsS r with
        | none => rw [he] at h; cases h
        | some p =>
          rw [he] at h
          injection h with h
          injection h with h1 h2
          subst h1 h2
          obtain ⟨h3, h4⟩ := eps_8 (r := r) (es := p.1) (t := p.2) (fun p hp => hb p (List.mem_cons_of_mem _ hp)) he
          refine ⟨fun x hx => ?_, h4⟩
          rcases List.mem_cons.1 hx with rfl | hx
          · rw [(decEp_raw hd).2]; exact readEp_ok (hb b List.mem_cons_self)
          · exact h3 x hx
    · rw [if_neg hk] at h
      injection h with h
      injection h with h1 h2
      subst h1 h2
      exact ⟨fun e he => (by cases he), hb⟩
theorem alts_inv : ∀ (n : Nat) (r : List (List Int)) (acc L : List (List Alt)) (t : List (List Int)), altsS n r acc = some (L, t) → Bytes8 r → (∀ x ∈ acc, ∀ a ∈ x, a.ok) →
    L.flatMap rawI ++ t.flatten = acc.flatMap rawI ++ r.flatten ∧ ∀ x ∈ L, ∀ a ∈ x, a.ok
  | 0, r, acc, L, t, h, _, _ => by cases h
  | n + 1, [], acc, L, t, h, _, ha => by injection h with h; injection h with h1 h2; subst h1 h2; exact ⟨rfl, ha⟩
  | n + 1, b :: r, acc, L, t, h, hb, ha => by
    unfold altsS at h
    by_cases hk : kindB b = 4
    · rw [if_pos hk] at h
      cases hd : decIf b with
      | none => rw [hd] at h; cases h
      | some d =>
        rw [hd] at h
        change (epsS (extraS r).2).bind _ = some (L, t) at h
        cases he : epsS (extraS r).2 with
        | none => rw [he] at h; cases h
        | some p =>
          rw [he] at h
          change (if (if d.alt = 0 then acc ++ [[]] else acc) = [] then none else altsS n p.2 (addLast (if d.alt = 0 then acc ++ [[]] else acc) ⟨d, (extraS r).1.flatten, p.1⟩)) = some (L, t) at h
          obtain ⟨acc', hacc⟩ : ∃ acc', (if d.alt = 0 then acc ++ [[]] else acc) = acc' := ⟨_, rfl⟩
          rw [hacc] at h
          have hraw : acc'.flatMap rawI = acc.flatMap rawI := by
            rw [← hacc]
            split
            · rw [List.flatMap_append]; simp [rawI]
            · rfl
          have hall : ∀ x ∈ acc', ∀ a ∈ x, a.ok := by
            rw [← hacc]
            split
            · intro x hx
              rcases List.mem_append.1 hx with hx | hx
              · exact ha x hx
              · rw [List.mem_singleton.1 hx]; intro a h; cases h
            · exact ha
          by_cases hc : acc' = []
          · rw [if_pos hc] at h; cases h
          · rw [if_neg hc] at h
            obtain ⟨x1, x2⟩ := extra_8 (r := r) (fun p hp => hb p (List.mem_cons_of_mem _ hp))
            obtain ⟨y1, y2⟩ := eps_8 x2 (show epsS _ = some (p.1, p.2) from he)
            have hok : Alt.ok ⟨d, (extraS r).1.flatten, p.1⟩ := ⟨by rw [(decIf_raw hd).2]; exact readIf_ok (hb b List.mem_cons_self), fun z hz => by
              obtain ⟨q, hq, hz⟩ := List.mem_flatten.1 hz
              exact x1 q hq z hz, y1⟩
            obtain ⟨i1, i2⟩ := alts_inv n p.2 _ L t h y2 (addLast_all hall hok)
            refine ⟨?_, i2⟩
            rw [i1, addLast_raw _ hc, hraw, List.flatten_cons, extra_inv r, eps_inv _ p.1 p.2 he]
            unfold rawAlt
            simp only [(decIf_raw hd).1, List.append_assoc]
    · rw [if_neg hk] at h
      injection h with h
      injection h with h1 h2
      subst h1 h2
      exact ⟨rfl, ha⟩
/-- what Parse accepts are the bytes of what it returns, which is valid -/
theorem parse_inv {b : List Int} {c : Cfg} (hb : ∀ z ∈ b, u8k z) (h : parseC b = some c) : toldS c = b ∧ checkS c = 0 ∧ c.ok := by
  unfold parseC at h
  cases hd : divide b with
  | none => rw [hd] at h; cases h
  | some l =>
    rw [hd] at h
    change readS l = some c at h
    obtain ⟨hf, _, _⟩ := divide_inv hd
    have h8 : Bytes8 l := fun p hp z hz => hb z (by rw [← hf]; exact List.mem_flatten.2 ⟨p, hp, hz⟩)
    cases l with
    | nil => cases h
    | cons x r =>
      change (decCfg x).bind _ = some c at h
      cases hx : decCfg x with
      | none => rw [hx] at h; cases h
      | some d =>
        rw [hx] at h
        change (altsS (r.length + 1) r []).bind _ = some c at h
        cases ha : altsS (r.length + 1) r [] with
        | none => rw [ha] at h; cases h
        | some p =>
          rw [ha] at h
          change (if p.2 = [] ∧ checkS ⟨d, p.1⟩ = 0 then some (fillS ⟨d, p.1⟩) else none) = some c at h
          by_cases hc : p.2 = [] ∧ checkS ⟨d, p.1⟩ = 0
          · rw [if_pos hc] at h
            injection h with h
            rw [fill_same (check_of hc.2)] at h
            subst h
            obtain ⟨i1, i2⟩ := alts_inv _ r [] p.1 p.2 ha (fun q hq => h8 q (List.mem_cons_of_mem _ hq)) (fun x hx => by cases hx)
            refine ⟨?_, hc.2, ?_, i2⟩
            · rw [hc.1] at i1
              simp only [List.flatten_nil, List.append_nil, List.flatMap_nil, List.nil_append] at i1
              unfold toldS
              rw [i1, (decCfg_raw hx).1, ← hf, List.flatten_cons]
            · show d.ok
              rw [(decCfg_raw hx).2]; exact readCfg_ok (h8 x List.mem_cons_self)
          · rw [if_neg hc] at h; cases h
end Go.Proofs.YtjgncofhobhjdaaDoor
/- The law's reader of bytes (accepted) as data: it accepts what Parse accepts. No condition; nothing of the program. -/
namespace Go.Proofs.YtjgncofhobhjdaaDoor
open Go.RowKit

/-- an endpoint that the law's reader refuses -/
def epBad (e0 e1 a k mx iv : Int) (s : Int → Bool) (o : Int → Nat) (ifc : Nat) : Bool :=
  decide (e0 ≠ 7) || decide (e1 ≠ 5) || decide (a % 128 < 1) || decide (15 < a % 128) || decide (k < 1) || decide (3 < k) || decide (mx < 1) || decide (1024 < mx) || s a || (decide (0 < o a) && decide (o a ≠ ifc)) ||
    (decide (k = 2) && decide (iv ≠ 0)) || (decide (k ≠ 2) && decide (iv < 1)) || (decide (k = 1) && decide (16 < iv))
def accEps : Nat → List Int → (Int → Bool) → (Int → Nat) → Nat → Option (List Int × (Int → Nat))
  | 0, r, _, o, _ => some (r, o)
  | k + 1, e0 :: e1 :: a :: kd :: m0 :: m1 :: iv :: r, s, o, ifc => if epBad e0 e1 a kd (m0 + 256 * m1) iv s o ifc then none
    else accEps k r (fun x => if x = a then true else s x) (fun x => if x = a then ifc else o x) ifc
  | _ + 1, _, _, _, _ => none
def accX : Nat → List Int → List Int
  | 0, r => r
  | n + 1, h :: k :: t => if 1 < h ∧ h ≤ ((h :: k :: t).length : Int) ∧ stdS k = false then accX n ((h :: k :: t).drop h.toNat) else h :: k :: t
  | _ + 1, [x] => [x]
  | _ + 1, [] => []
def accLoop : Nat → List Int → Nat → Nat → (Int → Nat) → Option Nat
  | 0, _, _, _, _ => none
  | _ + 1, [], ifc, _, _ => some ifc
  | n + 1, b0 :: b1 :: b2 :: b3 :: b4 :: b5 :: b6 :: b7 :: b8 :: r, ifc, set, o =>
    if b0 ≠ 9 ∨ b1 ≠ 4 ∨ 30 < b4 then none
    else if (if b3 = 0 then ifc + 1 else ifc) = 0 ∨ b2 ≠ ((if b3 = 0 then ifc + 1 else ifc : Nat) : Int) - 1 ∨ b3 ≠ ((if b3 = 0 then 0 else set : Nat) : Int) ∨ 15 < (if b3 = 0 then 0 else set) then none
    else (accEps b4.toNat (accX r.length r) (fun _ => false) o (if b3 = 0 then ifc + 1 else ifc)).bind fun p => accLoop n p.1 (if b3 = 0 then ifc + 1 else ifc) ((if b3 = 0 then 0 else set) + 1) p.2
  | _ + 1, _ :: _, _, _, _ => none
def accB (b : List Int) : Bool := match b with
  | b0 :: b1 :: b2 :: b3 :: b4 :: b5 :: _ :: b7 :: b8 :: r =>
    decide (b0 = 9) && decide (b1 = 2) && decide (b2 + 256 * b3 = (b.length : Int)) && decide (1 ≤ b4) && decide (b4 ≤ 16) && decide (1 ≤ b5) && decide (128 ≤ b7) && decide (b7 % 32 = 0) && decide (b8 ≤ 250) &&
      (match accLoop (r.length + 1) r 0 0 (fun _ => 0) with | some n => decide ((n : Int) = b4) | none => false)
  | _ => false
/-- the owners, counted from 1 on, as owners -/
def conv (o : Int → Nat) : Int → Option Nat := fun a => if o a = 0 then none else some (o a - 1)
theorem accX_inv : ∀ (n : Nat) (r : List Int), ∃ l : List (List Int), r = l.flatten ++ accX n r ∧ (∀ p ∈ l, 2 ≤ p.length ∧ p.head? = some (p.length : Int)) ∧ ∀ p ∈ l, stdS (kindB p) = false
  | 0, r => ⟨[], rfl, fun p hp => (by cases hp), fun p hp => (by cases hp)⟩
  | n + 1, [] => ⟨[], rfl, fun p hp => (by cases hp), fun p hp => (by cases hp)⟩
  | n + 1, [x] => ⟨[], rfl, fun p hp => (by cases hp), fun p hp => (by cases hp)⟩
  | n + 1, h :: k :: t => by
    rw [accX]
    by_cases hc : 1 < h ∧ h ≤ ((h :: k :: t).length : Int) ∧ stdS k = false
    · rw [if_pos hc]
      obtain ⟨l, h1, h2, h3⟩ := accX_inv n ((h :: k :: t).drop h.toNat)
      have hn : 2 ≤ h.toNat ∧ h.toNat ≤ (h :: k :: t).length := by omega
      obtain ⟨m, hm⟩ : ∃ m, h.toNat = m + 2 := ⟨h.toNat - 2, by omega⟩
      refine ⟨(h :: k :: t).take h.toNat :: l, ?_, ?_, ?_⟩
      · rw [List.flatten_cons, List.append_assoc, ← h1, List.take_append_drop]
      · intro p hp
        rcases List.mem_cons.1 hp with rfl | hp
        · rw [List.length_take, Nat.min_eq_left hn.2]
          refine ⟨hn.1, ?_⟩
          rw [hm, List.take_succ_cons, List.head?_cons]
          congr 1
          omega
        · exact h2 p hp
      · intro p hp
        rcases List.mem_cons.1 hp with rfl | hp
        · rw [hm, List.take_succ_cons, List.take_succ_cons]
          exact hc.2.2
        · exact h3 p hp
    · rw [if_neg hc]
      exact ⟨[], rfl, fun p hp => (by cases hp), fun p hp => (by cases hp)⟩
/-- pieces are skipped -/
theorem accX_run : ∀ (l : List (List Int)) (n : Nat) (t : List Int), (∀ p ∈ l, 2 ≤ p.length ∧ p.head? = some (p.length : Int)) → (∀ p ∈ l, stdS (kindB p) = false) → (∀ h k u, t = h :: k :: u → stdS k = true) → l.length ≤ n →
    accX n (l.flatten ++ t) = t
  | [], n, t, _, _, ht, _ => by
    rw [List.flatten_nil, List.nil_append]
    cases n with
    | zero => rfl
    | succ n =>
      cases t with
      | nil => rfl
      | cons h t =>
        cases t with
        | nil => rfl
        | cons k u =>
          rw [accX, if_neg (by rw [ht h k u rfl]; simp)]
  | p :: l, n, t, h1, h2, ht, hn => by
    rw [List.length_cons] at hn
    obtain ⟨m, rfl⟩ : ∃ m, n = m + 1 := ⟨n - 1, by omega⟩
    obtain ⟨h3, h4⟩ := h1 p List.mem_cons_self
    obtain ⟨x, k, u, rfl⟩ : ∃ x k u, p = x :: k :: u := by
      cases p with
      | nil => simp at h3
      | cons x p =>
        cases p with
        | nil => simp at h3
        | cons k u => exact ⟨x, k, u, rfl⟩
    have hx : x = ((x :: k :: u).length : Int) := by simpa using h4
    rw [List.flatten_cons, List.append_assoc]
    show (if 1 < x ∧ x ≤ ((x :: k :: (u ++ (l.flatten ++ t))).length : Int) ∧ stdS k = false then accX m ((x :: k :: (u ++ (l.flatten ++ t))).drop x.toNat) else _) = t
    have hk : stdS k = false := h2 _ List.mem_cons_self
    have hlen : ((x :: k :: (u ++ (l.flatten ++ t))).length : Int) = ((x :: k :: u).length : Int) + ((l.flatten ++ t).length : Int) := by simp; omega
    rw [if_pos ⟨by simp at hx h3; omega, by rw [hlen]; omega, hk⟩]
    have ht2 : x.toNat = (x :: k :: u).length := by omega
    rw [ht2, show x :: k :: (u ++ (l.flatten ++ t)) = (x :: k :: u) ++ (l.flatten ++ t) from rfl, List.drop_left]
    exact accX_run l m t (fun q hq => h1 q (List.mem_cons_of_mem _ hq)) (fun q hq => h2 q (List.mem_cons_of_mem _ hq)) ht (by omega)
/-- endpoints: what the law's reader takes -/
theorem accEps_inv : ∀ (k : Nat) (r : List Int) (s : Int → Bool) (o : Int → Nat) (ifc : Nat) (t : List Int) (o2 : Int → Nat), 1 ≤ ifc → (∀ z ∈ r, u8k z) → accEps k r s o ifc = some (t, o2) →
    ∃ es : List EpD, es.length = k ∧ r = es.flatMap rawEp ++ t ∧ (∀ e ∈ es, okEp e = true ∧ e.ok) ∧ epsApart (ifc - 1) es (conv o) s = some (conv o2)
  | 0, r, s, o, ifc, t, o2, _, _, h => by
    injection h with h
    injection h with h1 h2
    subst h1 h2
    exact ⟨[], rfl, rfl, fun e he => (by cases he), rfl⟩
  | k + 1, e0 :: e1 :: a :: kd :: m0 :: m1 :: iv :: r, s, o, ifc, t, o2, hi, h8, h => by
    unfold accEps at h
    by_cases hb : epBad e0 e1 a kd (m0 + 256 * m1) iv s o ifc = true
    · rw [if_pos hb] at h; cases h
    · rw [if_neg hb] at h
      obtain ⟨es, h1, h2, h3, h4⟩ := accEps_inv k r _ _ ifc t o2 hi (fun z hz => h8 z (by simp [hz])) h
      have hb2 : epBad e0 e1 a kd (m0 + 256 * m1) iv s o ifc = false := by simpa using hb
      unfold epBad at hb2
      simp only [Bool.or_eq_false_iff, decide_eq_false_iff_not, Bool.and_eq_false_iff] at hb2
      obtain ⟨⟨⟨⟨⟨⟨⟨⟨⟨⟨⟨⟨q0, q1⟩, q2⟩, q3⟩, q4⟩, q5⟩, q6⟩, q7⟩, q8⟩, q9⟩, q10⟩, q11⟩, q12⟩ := hb2
      have ua := h8 a (by simp)
      have uk := h8 kd (by simp)
      have u0 := h8 m0 (by simp)
      have u1 := h8 m1 (by simp)
      have uv := h8 iv (by simp)
      unfold u8k at ua uk u0 u1 uv
      obtain ⟨E, hE⟩ : ∃ E : EpD, E = ⟨a % 128, a / 128 % 2 == 1, kd, m0 + 256 * m1, iv⟩ := ⟨_, rfl⟩
      have hEo : okEp E = true := by
        rw [hE]
        unfold okEp
        simp only [Bool.and_eq_true, decide_eq_true_eq]
        refine ⟨⟨⟨⟨by omega, by omega⟩, by omega⟩, by omega⟩, ?_⟩
        by_cases k2 : kd = 2
        · rw [if_pos k2]; simp only [decide_eq_true_eq]; rcases q10 with q | q <;> omega
        · rw [if_neg k2]
          by_cases k1 : kd = 1
          · rw [if_pos k1]; simp only [Bool.and_eq_true, decide_eq_true_eq]
            constructor
            · rcases q11 with q | q <;> omega
            · rcases q12 with q | q <;> omega
          · rw [if_neg k1, if_pos (by omega : kd = 3)]; simp only [decide_eq_true_eq]; rcases q11 with q | q <;> omega
      have hA : addrS E = a := by
        rw [hE]
        unfold addrS
        simp only
        by_cases hh : a / 128 % 2 = 1
        · rw [if_pos (by simpa using hh)]; omega
        · rw [if_neg (by simpa using hh)]; omega
      have hR : rawEp E = [e0, e1, a, kd, m0, m1, iv] := by
        unfold rawEp
        rw [hA, hE]
        simp only
        rw [show (m0 + 256 * m1) % 256 = m0 by omega, show (m0 + 256 * m1) / 256 = m1 by omega, show e0 = 7 by omega, show e1 = 5 by omega]
      refine ⟨E :: es, by rw [List.length_cons, h1], ?_, ?_, ?_⟩
      · rw [List.flatMap_cons, hR, List.append_assoc, ← h2]; rfl
      · intro e he
        rcases List.mem_cons.1 he with rfl | he
        · exact ⟨hEo, by rw [hE]; exact ⟨by unfold u8k; simp only; omega, by unfold u8k; simp only; omega, by unfold u16k; simp only; omega, by unfold u8k; simp only; omega⟩⟩
        · exact h3 e he
      · unfold epsApart
        rw [hA]
        have ho : other (conv o) (ifc - 1) a = false := by
          unfold other conv
          by_cases hz : o a = 0
          · rw [if_pos hz]
          · rw [if_neg hz]
            have : o a = ifc := by rcases q9 with q | q <;> omega
            simp [this]
        rw [if_neg (by rw [ho, q8]; simp)]
        have hc : conv (fun x => if x = a then ifc else o x) = fun x => if x = a then some (ifc - 1) else conv o x := by
          funext x
          by_cases hx : x = a
          · subst hx
            have h0 : ¬ ifc = 0 := by omega
            simp [conv, h0]
          · simp [conv, hx]
        rw [← hc]
        exact h4
  | k + 1, [], _, _, _, _, _, _, _, h => by cases h
  | k + 1, [_], _, _, _, _, _, _, _, h => by cases h
  | k + 1, [_, _], _, _, _, _, _, _, _, h => by cases h
  | k + 1, [_, _, _], _, _, _, _, _, _, _, h => by cases h
  | k + 1, [_, _, _, _], _, _, _, _, _, _, _, h => by cases h
  | k + 1, [_, _, _, _, _], _, _, _, _, _, _, _, h => by cases h
  | k + 1, [_, _, _, _, _, _], _, _, _, _, _, _, _, h => by cases h
end Go.Proofs.YtjgncofhobhjdaaDoor
/- The law's reader of bytes accepts what Parse accepts. No condition; nothing of the program. -/
namespace Go.Proofs.YtjgncofhobhjdaaDoor
open Go.RowKit

/-- a setting is valid, but for its number -/
def Near (a : Alt) : Prop := extraOk a.extra = true ∧ (∀ e ∈ a.eps, okEp e = true) ∧ a.d.alt < 16 ∧ a.d.eps ≤ 30 ∧ a.ok
theorem extraOk_flat {l : List (List Int)} (h1 : ∀ p ∈ l, 2 ≤ p.length ∧ p.head? = some (p.length : Int)) (h2 : ∀ p ∈ l, stdS (kindB p) = false) (h3 : l.flatten.length ≤ 4096) : extraOk l.flatten = true := by
  have hd : divide l.flatten = some l := by
    unfold divide
    rw [if_neg (by omega)]
    refine div_flat _ _ h1 ?_
    have := flatten_len l (fun b hb => by have := (h1 b hb).1; omega)
    omega
  unfold extraOk
  rw [hd]
  rw [List.all_eq_true]
  intro p hp
  rw [h2 p hp]
  rfl
theorem accLoop_inv : ∀ (n : Nat) (r : List Int) (ifc set : Nat) (o : Int → Nat) (N : Nat), (∀ z ∈ r, u8k z) → r.length ≤ 4096 → accLoop n r ifc set o = some N →
    ∃ (l : List Alt) (ls : List (List Alt)), (ifc = 0 → l = []) ∧ r = rawI l ++ ls.flatMap rawI ∧ altsCounted (ifc - 1) set l = true ∧ (l ≠ [] → set + l.length ≤ 16) ∧ (∀ a ∈ l, Near a) ∧
      (∀ x ∈ ls, x ≠ [] ∧ x.length ≤ 16 ∧ ∀ a ∈ x, Near a) ∧ ifsCounted ifc ls = true ∧ N = ifc + ls.length ∧ ∃ o2, altsApart (ifc - 1) l (conv o) = some o2 ∧ ifsApart ifc ls o2 = true
  | 0, r, ifc, set, o, N, _, _, h => by cases h
  | n + 1, [], ifc, set, o, N, _, _, h => by
    rw [accLoop] at h
    injection h with h
    subst h
    exact ⟨[], [], fun _ => rfl, rfl, rfl, fun h => absurd rfl h, fun a ha => (by cases ha), fun a ha => (by cases ha), rfl, rfl, _, rfl, rfl⟩
  | n + 1, b0 :: b1 :: b2 :: b3 :: b4 :: b5 :: b6 :: b7 :: b8 :: r, ifc, set, o, N, h8, hlen, h => by
    rw [accLoop] at h
    by_cases c1 : b0 ≠ 9 ∨ b1 ≠ 4 ∨ 30 < b4
    · rw [if_pos c1] at h; cases h
    · rw [if_neg c1] at h
      obtain ⟨i', hi'⟩ : ∃ i' : Nat, (if b3 = 0 then ifc + 1 else ifc) = i' := ⟨_, rfl⟩
      obtain ⟨s', hs'⟩ : ∃ s' : Nat, (if b3 = 0 then 0 else set) = s' := ⟨_, rfl⟩
      rw [hi', hs'] at h
      by_cases c2 : i' = 0 ∨ b2 ≠ (i' : Int) - 1 ∨ b3 ≠ (s' : Int) ∨ 15 < s'
      · rw [if_pos c2] at h; cases h
      · rw [if_neg c2] at h
        cases he : accEps b4.toNat (accX r.length r) (fun _ => false) o i' with
        | none => rw [he] at h; cases h
        | some p =>
          rw [he] at h
          change accLoop n p.1 i' (s' + 1) p.2 = some N at h
          have u2 := h8 b2 (by simp)
          have u3 := h8 b3 (by simp)
          have u4 := h8 b4 (by simp)
          obtain ⟨pl, hp1, hp2, hp3⟩ := accX_inv r.length r
          have hr8 : ∀ z ∈ r, u8k z := fun z hz => h8 z (by simp [hz])
          have hx8 : ∀ z ∈ accX r.length r, u8k z := fun z hz => hr8 z (by rw [hp1]; exact List.mem_append_right _ hz)
          obtain ⟨es, e1, e2, e3, e4⟩ := accEps_inv _ _ _ _ i' p.1 p.2 (by omega) hx8 he
          have hpl : pl.flatten.length ≤ 4096 := by
            have := congrArg List.length hp1
            rw [List.length_append] at this
            simp at hlen
            omega
          obtain ⟨a, ha⟩ : ∃ a : Alt, a = ⟨⟨b2, b3, b4, b5, b6, b7, b8⟩, pl.flatten, es⟩ := ⟨_, rfl⟩
          have u4' := u4.1
          have hnear : Near a := by
            rw [ha]
            refine ⟨extraOk_flat hp2 hp3 hpl, fun e he => (e3 e he).1, ?_, ?_, ?_, ?_, fun e he => (e3 e he).2⟩
            · show b3 < 16; omega
            · show b4 ≤ 30; omega
            · exact ⟨u2, u3, u4, h8 b5 (by simp), h8 b6 (by simp), h8 b7 (by simp), h8 b8 (by simp)⟩
            · intro z hz
              exact hr8 z (by rw [hp1]; exact List.mem_append_left _ hz)
          have hraw : b0 :: b1 :: b2 :: b3 :: b4 :: b5 :: b6 :: b7 :: b8 :: r = rawAlt a ++ p.1 := by
            rw [ha]
            unfold rawAlt rawIf
            simp only [List.cons_append, List.nil_append, List.append_assoc]
            rw [← e2, ← hp1, show b0 = 9 by omega, show b1 = 4 by omega]
          have hp8 : ∀ z ∈ p.1, u8k z := fun z hz => h8 z (by rw [hraw]; exact List.mem_append_right _ hz)
          have hpl2 : p.1.length ≤ 4096 := by
            have := congrArg List.length hraw
            rw [List.length_append] at this
            omega
          obtain ⟨l, ls, i1, i2, i3, i4, i5, i6, i7, i8, o3, i9, i10⟩ := accLoop_inv n p.1 i' (s' + 1) p.2 N hp8 hpl2 h
          have hes : a.d.eps = (a.eps.length : Int) := by
            rw [ha]; show b4 = (es.length : Int); rw [e1]; omega
          have hnum : a.d.num = ((i' - 1 : Nat) : Int) := by rw [ha]; show b2 = _; omega
          have halt : a.d.alt = (s' : Int) := by rw [ha]; show b3 = _; omega
          have hcnt : altsCounted (i' - 1) s' (a :: l) = true := by
            unfold altsCounted
            rw [i3]
            simp [hes, hnum, halt]
          have heps : a.eps = es := by rw [ha]
          have hap : altsApart (i' - 1) (a :: l) (conv o) = some o3 := by
            unfold altsApart
            rw [heps, e4]
            exact i9
          have hrw : rawI (a :: l) = rawAlt a ++ rawI l := by unfold rawI; rw [List.flatMap_cons]
          have hne : ∀ b ∈ a :: l, Near b := fun b hb => by
            rcases List.mem_cons.1 hb with rfl | hb
            · exact hnear
            · exact i5 b hb
          have hsl : s' + (a :: l).length ≤ 16 := by
            rw [List.length_cons]
            by_cases hl : l = []
            · rw [hl]; simp; omega
            · have := i4 hl; omega
          by_cases c3 : b3 = 0
          · rw [if_pos c3] at hi' hs'
            subst hi' hs'
            refine ⟨[], (a :: l) :: ls, fun _ => rfl, ?_, rfl, fun h => absurd rfl h, fun b hb => (by cases hb), ?_, ?_, ?_, _, rfl, ?_⟩
            · rw [hraw, i2, List.flatMap_cons, hrw, List.append_assoc]; rfl
            · intro x hx
              rcases List.mem_cons.1 hx with rfl | hx
              · exact ⟨by simp, by omega, hne⟩
              · exact i6 x hx
            · unfold ifsCounted
              rw [i7]
              simp only [Nat.add_sub_cancel] at hcnt
              rw [hcnt]
              rfl
            · rw [i8, List.length_cons]; omega
            · unfold ifsApart
              simp only [Nat.add_sub_cancel] at hap
              rw [hap]
              exact i10
          · rw [if_neg c3] at hi' hs'
            subst hi' hs'
            refine ⟨a :: l, ls, fun h0 => by omega, ?_, hcnt, fun _ => hsl, hne, i6, i7, i8, o3, hap, i10⟩
            rw [hraw, i2, hrw, List.append_assoc]
  | n + 1, [_], _, _, _, _, _, _, h => by rw [accLoop] at h <;> simp_all
  | n + 1, [_, _], _, _, _, _, _, _, h => by rw [accLoop] at h <;> simp_all
  | n + 1, [_, _, _], _, _, _, _, _, _, h => by rw [accLoop] at h <;> simp_all
  | n + 1, [_, _, _, _], _, _, _, _, _, _, h => by rw [accLoop] at h <;> simp_all
  | n + 1, [_, _, _, _, _], _, _, _, _, _, _, h => by rw [accLoop] at h <;> simp_all
  | n + 1, [_, _, _, _, _, _], _, _, _, _, _, _, h => by rw [accLoop] at h <;> simp_all
  | n + 1, [_, _, _, _, _, _, _], _, _, _, _, _, _, h => by rw [accLoop] at h <;> simp_all
  | n + 1, [_, _, _, _, _, _, _, _], _, _, _, _, _, _, h => by rw [accLoop] at h <;> simp_all
end Go.Proofs.YtjgncofhobhjdaaDoor
/- The law's reader of bytes accepts exactly what Parse accepts. No condition; nothing of the program. -/
namespace Go.Proofs.YtjgncofhobhjdaaDoor
open Go.RowKit

theorem epsApart_bad {e : EpD} {l : List EpD} {o : Int → Option Nat} {s : Int → Bool} {i : Nat} {q : Int → Option Nat} (h : epsApart i (e :: l) o s = some q) : other o i (addrS e) = false ∧ s (addrS e) = false ∧
    epsApart i l (fun a => if a = addrS e then some i else o a) (fun a => if a = addrS e then true else s a) = some q := by
  unfold epsApart at h
  by_cases hc : (other o i (addrS e) || s (addrS e)) = true
  · rw [if_pos hc] at h; cases h
  · rw [if_neg hc] at h
    simp only [Bool.or_eq_true, not_or, Bool.not_eq_true] at hc
    exact ⟨hc.1, hc.2, h⟩
theorem accEps_run : ∀ (es : List EpD) (t : List Int) (s : Int → Bool) (o : Int → Nat) (ifc : Nat) (q : Int → Option Nat), 1 ≤ ifc → (∀ e ∈ es, okEp e = true ∧ e.ok) → epsApart (ifc - 1) es (conv o) s = some q →
    ∃ o2, accEps es.length (es.flatMap rawEp ++ t) s o ifc = some (t, o2) ∧ conv o2 = q
  | [], t, s, o, ifc, q, _, _, h => by injection h with h; exact ⟨o, rfl, h⟩
  | e :: es, t, s, o, ifc, q, hi, he, h => by
    obtain ⟨h1, h2, h3⟩ := epsApart_bad h
    have hc : conv (fun x => if x = addrS e then ifc else o x) = fun x => if x = addrS e then some (ifc - 1) else conv o x := by
      funext x
      by_cases hx : x = addrS e
      · subst hx
        have h0 : ¬ ifc = 0 := by omega
        simp [conv, h0]
      · simp [conv, hx]
    rw [← hc] at h3
    obtain ⟨o2, i1, i2⟩ := accEps_run es t _ _ ifc q hi (fun x hx => he x (List.mem_cons_of_mem _ hx)) h3
    refine ⟨o2, ?_, i2⟩
    obtain ⟨hok, ⟨n0, n1⟩, ⟨k0, k1⟩, ⟨m0, m1⟩, ⟨v0, v1⟩⟩ := he e List.mem_cons_self
    obtain ⟨g1, g2, g3, g4, g5⟩ := okEp_num hok
    rw [List.flatMap_cons, List.append_assoc]
    show (if epBad 7 5 (addrS e) e.kind (e.max % 256 + 256 * (e.max / 256)) e.ivl s o ifc then none else accEps es.length (es.flatMap rawEp ++ t) (fun x => if x = addrS e then true else s x) (fun x => if x = addrS e then ifc else o x) ifc) = _
    rw [if_neg, i1]
    rw [show e.max % 256 + 256 * (e.max / 256) = e.max by omega]
    have ha : addrS e % 128 = e.num := (addr_parts g1 g2 e.inn).1
    unfold okEp at hok
    simp only [Bool.and_eq_true, decide_eq_true_eq] at hok
    obtain ⟨_, h5⟩ := hok
    have hiv : (e.kind = 2 → e.ivl = 0) ∧ (e.kind ≠ 2 → 1 ≤ e.ivl) ∧ (e.kind = 1 → e.ivl ≤ 16) := by
      rcases g5 with g | g | g <;> simp [g] at h5 <;> simp [g] <;> omega
    have ho : ¬ (0 < o (addrS e) ∧ o (addrS e) ≠ ifc) := by
      unfold other conv at h1
      intro hh
      rw [if_neg (by omega)] at h1
      simp at h1
      omega
    unfold epBad
    simp only [Bool.or_eq_true, decide_eq_true_eq, Bool.and_eq_true, h2, ha]
    rintro ((((((((((((hh | hh) | hh) | hh) | hh) | hh) | hh) | hh) | hh) | hh) | hh) | hh) | hh)
    · exact hh rfl
    · exact hh rfl
    · omega
    · omega
    · omega
    · omega
    · omega
    · omega
    · cases hh
    · exact ho hh
    · exact hh.2 (hiv.1 hh.1)
    · have := hiv.2.1 hh.1; omega
    · have := hiv.2.2 hh.1; omega
/-- what may follow a setting -/
def StopB (t : List Int) : Prop := t = [] ∨ ∃ r, t = 9 :: 4 :: r
theorem accAlt_run {a : Alt} {l : List (List Int)} (hl : AltGood a l) (ha : a.ok) {t : List Int} (ht : StopB t) (n ifc set : Nat) (o : Int → Nat) (he : a.d.eps = (a.eps.length : Int)) (i' s' : Nat) (hi : (if a.d.alt = 0 then ifc + 1 else ifc) = i') (hs : (if a.d.alt = 0 then 0 else set) = s')
    (h1 : 1 ≤ i') (hn : a.d.num = ((i' - 1 : Nat) : Int)) (hj : a.d.alt = (s' : Int)) {q : Int → Option Nat} (hq : epsApart (i' - 1) a.eps (conv o) (fun _ => false) = some q) :
    ∃ o2, accLoop (n + 1) (rawAlt a ++ t) ifc set o = accLoop n t i' (s' + 1) o2 ∧ conv o2 = q := by
  have hx : accX (a.extra ++ (a.eps.flatMap rawEp ++ t)).length (a.extra ++ (a.eps.flatMap rawEp ++ t)) = a.eps.flatMap rawEp ++ t := by
    rw [← hl.flat]
    refine accX_run l _ _ hl.heads hl.kinds ?_ ?_
    · intro h k u e
      cases hes : a.eps with
      | nil =>
        rw [hes] at e
        rcases ht with rfl | ⟨r, rfl⟩
        · cases e
        · simp at e; rw [← e.2.1]; rfl
      | cons x es => rw [hes] at e; simp [rawEp] at e; rw [← e.2.1]; rfl
    · have := flatten_len l (fun b hb => by have := (hl.heads b hb).1; omega)
      rw [List.length_append]; omega
  obtain ⟨o2, e1, e2⟩ := accEps_run a.eps t (fun _ => false) o i' q h1 (fun e he => ⟨hl.eps e he, ha.2.2 e he⟩) hq
  refine ⟨o2, ?_, e2⟩
  have hif := hl.iface
  unfold okIf at hif
  simp only [Bool.and_eq_true, decide_eq_true_eq] at hif
  unfold rawAlt rawIf
  simp only [List.cons_append, List.nil_append, List.append_assoc]
  rw [accLoop, if_neg (by omega), hi, hs, if_neg (by omega), hx, he]
  rw [show ((a.eps.length : Int)).toNat = a.eps.length by omega, e1]
  rfl
theorem stopB_alts {l : List Alt} {t : List Int} (ht : StopB t) : StopB (rawI l ++ t) := by
  cases l with
  | nil => exact ht
  | cons a l => exact .inr ⟨_, rfl⟩
theorem altsApart_cons {i : Nat} {a : Alt} {l : List Alt} {o q : Int → Option Nat} (h : altsApart i (a :: l) o = some q) : ∃ o1, epsApart i a.eps o (fun _ => false) = some o1 ∧ altsApart i l o1 = some q := by
  unfold altsApart at h
  cases he : epsApart i a.eps o (fun _ => false) with
  | none => rw [he] at h; cases h
  | some o1 => rw [he] at h; exact ⟨o1, rfl, h⟩
theorem accAlts_run (i : Nat) : ∀ (l : List Alt) (set n : Nat) (o : Int → Nat) (t : List Int) (q : Int → Option Nat), 1 ≤ set → altsCounted i set l = true → (∀ a ∈ l, altOk a = true ∧ a.ok) → StopB t → altsApart i l (conv o) = some q →
    ∃ o2, accLoop (l.length + n) (rawI l ++ t) (i + 1) set o = accLoop n t (i + 1) (set + l.length) o2 ∧ conv o2 = q
  | [], set, n, o, t, q, _, _, _, _, h => by
    injection h with h
    exact ⟨o, by rw [List.length_nil, Nat.zero_add]; rfl, h⟩
  | a :: l, set, n, o, t, q, hs, hc, hl, ht, h => by
    obtain ⟨o1, h1, h2⟩ := altsApart_cons h
    unfold altsCounted at hc
    simp only [Bool.and_eq_true, decide_eq_true_eq] at hc
    obtain ⟨hok, hao⟩ := hl a List.mem_cons_self
    obtain ⟨pl, hpl⟩ := alt_good hok
    obtain ⟨o2, e1, e2⟩ := accAlt_run hpl hao (stopB_alts (l := l) ht) (l.length + n) (i + 1) set o hc.1.2 (i + 1) set (if_neg (by omega)) (if_neg (by omega)) (by omega) hc.1.1.1 hc.1.1.2 (q := o1) h1
    rw [← e2] at h2
    obtain ⟨o3, f1, f2⟩ := accAlts_run i l (set + 1) n o2 t q (by omega) hc.2 (fun b hb => hl b (List.mem_cons_of_mem _ hb)) ht h2
    refine ⟨o3, ?_, f2⟩
    have hr : rawI (a :: l) ++ t = rawAlt a ++ (rawI l ++ t) := by unfold rawI; rw [List.flatMap_cons, List.append_assoc]
    rw [hr, List.length_cons, show l.length + 1 + n = l.length + n + 1 by omega, e1, f1]
    rw [show set + 1 + l.length = set + (l.length + 1) by omega]
theorem stopB_ifs : ∀ {l : List (List Alt)}, (∀ x ∈ l, x ≠ []) → StopB (l.flatMap rawI)
  | [], _ => .inl rfl
  | x :: l, h => by
    cases x with
    | nil => exact absurd rfl (h _ List.mem_cons_self)
    | cons a x => exact .inr ⟨_, rfl⟩
theorem accIfs_run : ∀ (ls : List (List Alt)) (i set n : Nat) (o : Int → Nat), (∀ x ∈ ls, x ≠ [] ∧ ∀ a ∈ x, altOk a = true ∧ a.ok) → ifsCounted i ls = true → ifsApart i ls (conv o) = true →
    accLoop ((ls.map List.length).sum + (n + 1)) (ls.flatMap rawI) i set o = some (i + ls.length)
  | [], i, set, n, o, _, _, _ => by simp [accLoop]
  | x :: ls, i, set, n, o, hl, hc, h => by
    unfold ifsCounted at hc
    rw [Bool.and_eq_true] at hc
    obtain ⟨hne, hx⟩ := hl x List.mem_cons_self
    cases x with
    | nil => exact absurd rfl hne
    | cons a l =>
      unfold ifsApart at h
      cases hp : altsApart i (a :: l) (conv o) with
      | none => rw [hp] at h; cases h
      | some q =>
        rw [hp] at h
        obtain ⟨o1, h1, h2⟩ := altsApart_cons hp
        have hc1 := hc.1
        unfold altsCounted at hc1
        simp only [Bool.and_eq_true, decide_eq_true_eq] at hc1
        obtain ⟨hok, hao⟩ := hx a List.mem_cons_self
        obtain ⟨pl, hpl⟩ := alt_good hok
        have hst : StopB (ls.flatMap rawI) := stopB_ifs fun y hy => (hl y (List.mem_cons_of_mem _ hy)).1
        obtain ⟨o2, e1, e2⟩ := accAlt_run hpl hao (stopB_alts (l := l) hst) (l.length + ((ls.map List.length).sum + (n + 1))) i set o hc1.1.2 (i + 1) 0 (if_pos (by omega)) (if_pos (by omega)) (by omega) hc1.1.1.1 hc1.1.1.2 (q := o1) h1
        rw [← e2] at h2
        obtain ⟨o3, f1, f2⟩ := accAlts_run i l 1 ((ls.map List.length).sum + (n + 1)) o2 (ls.flatMap rawI) q (by omega) hc1.2 (fun b hb => hx b (List.mem_cons_of_mem _ hb)) hst h2
        have hr : ((a :: l) :: ls).flatMap rawI = rawAlt a ++ (rawI l ++ ls.flatMap rawI) := by rw [List.flatMap_cons]; unfold rawI; rw [List.flatMap_cons, List.append_assoc]
        rw [hr, List.map_cons, List.sum_cons, List.length_cons, show l.length + 1 + (ls.map List.length).sum + (n + 1) = l.length + ((ls.map List.length).sum + (n + 1)) + 1 by omega, e1, f1]
        rw [← f2] at h
        rw [accIfs_run ls (i + 1) _ n o3 (fun y hy => hl y (List.mem_cons_of_mem _ hy)) hc.2 h, List.length_cons]
        congr 1
        omega
theorem accLoop_mono : ∀ (n : Nat) (r : List Int) (ifc set : Nat) (o : Int → Nat) (N : Nat), accLoop n r ifc set o = some N → accLoop (n + 1) r ifc set o = some N
  | 0, r, ifc, set, o, N, h => by cases h
  | n + 1, [], ifc, set, o, N, h => by rw [accLoop] at h ⊢; exact h
  | n + 1, b0 :: b1 :: b2 :: b3 :: b4 :: b5 :: b6 :: b7 :: b8 :: r, ifc, set, o, N, h => by
    rw [accLoop] at h ⊢
    by_cases c1 : b0 ≠ 9 ∨ b1 ≠ 4 ∨ 30 < b4
    · rw [if_pos c1] at h; cases h
    · rw [if_neg c1] at h ⊢
      by_cases c2 : (if b3 = 0 then ifc + 1 else ifc) = 0 ∨ b2 ≠ ((if b3 = 0 then ifc + 1 else ifc : Nat) : Int) - 1 ∨ b3 ≠ ((if b3 = 0 then 0 else set : Nat) : Int) ∨ 15 < (if b3 = 0 then 0 else set)
      · rw [if_pos c2] at h; cases h
      · rw [if_neg c2] at h ⊢
        cases he : accEps b4.toNat (accX r.length r) (fun _ => false) o (if b3 = 0 then ifc + 1 else ifc) with
        | none => rw [he] at h; cases h
        | some p => rw [he] at h; exact accLoop_mono n _ _ _ _ N h
  | n + 1, [_], _, _, _, _, h => by rw [accLoop] at h <;> simp_all
  | n + 1, [_, _], _, _, _, _, h => by rw [accLoop] at h <;> simp_all
  | n + 1, [_, _, _], _, _, _, _, h => by rw [accLoop] at h <;> simp_all
  | n + 1, [_, _, _, _], _, _, _, _, h => by rw [accLoop] at h <;> simp_all
  | n + 1, [_, _, _, _, _], _, _, _, _, h => by rw [accLoop] at h <;> simp_all
  | n + 1, [_, _, _, _, _, _], _, _, _, _, h => by rw [accLoop] at h <;> simp_all
  | n + 1, [_, _, _, _, _, _, _], _, _, _, _, h => by rw [accLoop] at h <;> simp_all
  | n + 1, [_, _, _, _, _, _, _, _], _, _, _, _, h => by rw [accLoop] at h <;> simp_all
theorem accLoop_more {n : Nat} {r : List Int} {ifc set : Nat} {o : Int → Nat} {N : Nat} (h : accLoop n r ifc set o = some N) : ∀ k, accLoop (n + k) r ifc set o = some N
  | 0 => h
  | k + 1 => accLoop_mono _ _ _ _ _ _ (accLoop_more h k)
theorem attr_ok (d : CfgD) : 128 ≤ attrS d ∧ attrS d % 32 = 0 := by
  unfold attrS
  cases d.self <;> cases d.wake <;> decide
theorem rawIf_sum : ∀ l : List (List Alt), (l.map List.length).sum ≤ (l.flatMap rawI).length := by
  intro l
  induction l with
  | nil => simp
  | cons x l ih =>
    rw [List.map_cons, List.sum_cons, List.flatMap_cons, List.length_append]
    have : x.length ≤ (rawI x).length := by
      unfold rawI
      clear ih
      induction x with
      | nil => simp
      | cons a x ih =>
        rw [List.flatMap_cons, List.length_append, List.length_cons]
        have : 1 ≤ (rawAlt a).length := by unfold rawAlt rawIf; simp
        omega
    omega
/-- the bytes of a valid configuration are accepted -/
theorem acc_told {c : Cfg} (hc : checkS c = 0) (hok : c.ok) : accB (toldS c) = true := by
  have h := check_of hc
  have h1 := accIfs_run c.ifs 0 0 0 (fun _ => 0) (fun x hx => ⟨(h.each x hx).2, fun a ha => ⟨h.valid.alts x hx a ha, hok.2 x hx a ha⟩⟩) h.counted h.apart
  have h2 := accLoop_more h1 ((c.ifs.flatMap rawI).length - (c.ifs.map List.length).sum)
  have hs := rawIf_sum c.ifs
  rw [show (c.ifs.map List.length).sum + (0 + 1) + ((c.ifs.flatMap rawI).length - (c.ifs.map List.length).sum) = (c.ifs.flatMap rawI).length + 1 by omega] at h2
  have hd := h.valid.d
  unfold okCfg at hd
  simp only [Bool.and_eq_true, decide_eq_true_eq] at hd
  obtain ⟨a1, a2⟩ := attr_ok c.d
  have hlen : ((toldS c).length : Int) = c.d.total := by rw [← bytes_told h.valid, bytes_len h.valid, h.total]
  show (decide ((9 : Int) = 9) && decide ((2 : Int) = 2) && decide (c.d.total % 256 + 256 * (c.d.total / 256) = ((toldS c).length : Int)) && decide (1 ≤ c.d.ifs) && decide (c.d.ifs ≤ 16) && decide (1 ≤ c.d.number) && decide (128 ≤ attrS c.d) && decide (attrS c.d % 32 = 0) && decide (c.d.power ≤ 250) &&
      (match accLoop ((c.ifs.flatMap rawI).length + 1) (c.ifs.flatMap rawI) 0 0 (fun _ => 0) with | some n => decide ((n : Int) = c.d.ifs) | none => false)) = true
  rw [h2, hlen, h.ifs]
  simp only [Bool.and_eq_true, decide_eq_true_eq]
  have := h.ifs
  have hm := h.many
  exact ⟨⟨⟨⟨⟨⟨⟨⟨⟨trivial, trivial⟩, by omega⟩, by omega⟩, by omega⟩, by omega⟩, a1⟩, a2⟩, by omega⟩, by omega⟩
/-- what is accepted is read by Parse -/
theorem acc_parse {b : List Int} (hb : ∀ z ∈ b, u8k z) (hl : b.length ≤ 4096) (h : accB b = true) : ∃ c, parseC b = some c := by
  match b, hb, hl, h with
  | b0 :: b1 :: b2 :: b3 :: b4 :: b5 :: b6 :: b7 :: b8 :: r, hb, hl, h =>
    change (decide (b0 = 9) && decide (b1 = 2) && decide (b2 + 256 * b3 = ((b0 :: b1 :: b2 :: b3 :: b4 :: b5 :: b6 :: b7 :: b8 :: r).length : Int)) && decide (1 ≤ b4) && decide (b4 ≤ 16) && decide (1 ≤ b5) && decide (128 ≤ b7) && decide (b7 % 32 = 0) && decide (b8 ≤ 250) &&
      (match accLoop (r.length + 1) r 0 0 (fun _ => 0) with | some n => decide ((n : Int) = b4) | none => false)) = true at h
    simp only [Bool.and_eq_true, decide_eq_true_eq] at h
    obtain ⟨⟨⟨⟨⟨⟨⟨⟨⟨q0, q1⟩, q2⟩, q3⟩, q4⟩, q5⟩, q6⟩, q7⟩, q8⟩, h⟩ := h
    cases ha : accLoop (r.length + 1) r 0 0 (fun _ => 0) with
    | none => rw [ha] at h; cases h
    | some N =>
      rw [ha] at h
      simp only [decide_eq_true_eq] at h
      have hr8 : ∀ z ∈ r, u8k z := fun z hz => hb z (by simp [hz])
      obtain ⟨l, ls, i1, i2, i3, i4, i5, i6, i7, i8, o2, i9, i10⟩ := accLoop_inv _ r 0 0 _ N hr8 (by simp at hl; omega) ha
      have hl0 := i1 rfl
      subst hl0
      rw [show rawI [] ++ ls.flatMap rawI = ls.flatMap rawI from rfl] at i2
      have e9 : conv (fun _ => 0) = fun _ => none := by funext x; rfl
      injection i9 with i9
      rw [e9] at i9
      subst i9
      have u2 := hb b2 (by simp)
      have u3 := hb b3 (by simp)
      have u7 := hb b7 (by simp)
      unfold u8k at u2 u3 u7
      obtain ⟨d, hd⟩ : ∃ d : CfgD, d = ⟨b2 + 256 * b3, b4, b5, b6, b7 / 64 % 2 == 1, b7 / 32 % 2 == 1, b8⟩ := ⟨_, rfl⟩
      have hN : N = ls.length := by omega
      have hattr : attrS d = b7 := by
        rw [hd]
        unfold attrS
        simp only
        by_cases c6 : b7 / 64 % 2 = 1 <;> by_cases c5 : b7 / 32 % 2 = 1
        · rw [if_pos (by simpa using c6), if_pos (by simpa using c5)]; omega
        · rw [if_pos (by simpa using c6), if_neg (by simpa using c5)]; omega
        · rw [if_neg (by simpa using c6), if_pos (by simpa using c5)]; omega
        · rw [if_neg (by simpa using c6), if_neg (by simpa using c5)]; omega
      have hraw : rawCfg d = [b0, b1, b2, b3, b4, b5, b6, b7, b8] := by
        unfold rawCfg
        rw [hattr, hd]
        simp only
        rw [show (b2 + 256 * b3) % 256 = b2 by omega, show (b2 + 256 * b3) / 256 = b3 by omega, q0, q1]
      have htold : toldS ⟨d, ls⟩ = b0 :: b1 :: b2 :: b3 :: b4 :: b5 :: b6 :: b7 :: b8 :: r := by
        unfold toldS
        simp only
        rw [hraw, ← i2]
        rfl
      have hnum : ∀ (L : List (List Alt)) (i : Nat), ifsCounted i L = true → ∀ x ∈ L, ∀ a ∈ x, a.d.num < ((i + L.length : Nat) : Int) := by
        intro L
        induction L with
        | nil => intro i _ x hx; cases hx
        | cons y L ih =>
          intro i hc x hx a ha
          unfold ifsCounted at hc
          rw [Bool.and_eq_true] at hc
          rcases List.mem_cons.1 hx with rfl | hx
          · have : ∀ (m : List Alt) (j : Nat), altsCounted i j m = true → ∀ a ∈ m, a.d.num = (i : Int) := by
              intro m
              induction m with
              | nil => intro j _ a ha; cases ha
              | cons b m ih2 =>
                intro j hm a ha
                unfold altsCounted at hm
                simp only [Bool.and_eq_true, decide_eq_true_eq] at hm
                rcases List.mem_cons.1 ha with rfl | ha
                · exact hm.1.1.1
                · exact ih2 (j + 1) hm.2 a ha
            rw [this x 0 hc.1 a ha, List.length_cons]
            omega
          · have := ih (i + 1) hc.2 x hx a ha
            rw [List.length_cons]
            omega
      have hval : ValidC ⟨d, ls⟩ := by
        refine ⟨?_, fun x hx a ha => ?_⟩
        · rw [hd]
          unfold okCfg
          simp only [Bool.and_eq_true, decide_eq_true_eq]
          have : (9 : Int) ≤ ((b0 :: b1 :: b2 :: b3 :: b4 :: b5 :: b6 :: b7 :: b8 :: r).length : Int) := by simp; omega
          have : ((b0 :: b1 :: b2 :: b3 :: b4 :: b5 :: b6 :: b7 :: b8 :: r).length : Int) ≤ 4096 := by omega
          omega
        · obtain ⟨n1, n2, n3, n4, n5⟩ := (i6 x hx).2.2 a ha
          have := hnum ls 0 i7 x hx a ha
          unfold altOk okIf
          simp only [Bool.and_eq_true, decide_eq_true_eq]
          exact ⟨⟨⟨⟨by omega, n3⟩, n4⟩, n1⟩, List.all_eq_true.2 n2⟩
      have hsz : (sizeS ⟨d, ls⟩ : Int) = d.total := by
        rw [← bytes_len hval, bytes_told hval, htold, hd]
        exact q2.symm
      have hcheck : checkS ⟨d, ls⟩ = 0 := by
        have htot : d.total ≤ 4096 := by rw [hd]; simp only; omega
        have hlim : limitS ⟨d, ls⟩ = false := by
          unfold limitS
          simp only [Bool.or_eq_false_iff, decide_eq_false_iff_not, List.any_eq_false, decide_eq_true_eq]
          exact ⟨⟨by omega, by omega⟩, fun x hx => by have := (i6 x hx).2.1; omega⟩
        have hv : validS ⟨d, ls⟩ = true := by
          unfold validS
          rw [Bool.and_eq_true]
          exact ⟨hval.d, List.all_eq_true.2 fun x hx => List.all_eq_true.2 fun a ha => hval.alts x hx a ha⟩
        have hcn : countedS ⟨d, ls⟩ = true := by
          unfold countedS
          simp only [Bool.and_eq_true, decide_eq_true_eq]
          refine ⟨⟨?_, hsz.symm⟩, i7⟩
          rw [hd]; simp only; omega
        have hap : apartS ⟨d, ls⟩ = true := i10
        have hem : (ls.any fun l => l.isEmpty) = false := by
          rw [List.any_eq_false]
          intro x hx e
          exact (i6 x hx).1 (List.isEmpty_iff.1 e)
        unfold checkS
        rw [hlim, hv, hcn, hap]
        simp only
        rw [hem]
        rfl
      have hok : Cfg.ok ⟨d, ls⟩ := by
        refine ⟨?_, fun x hx a ha => ((i6 x hx).2.2 a ha).2.2.2.2⟩
        rw [hd]
        exact ⟨by unfold u16k; simp only; omega, hb b4 (by simp), hb b5 (by simp), hb b6 (by simp), hb b8 (by simp)⟩
      refine ⟨⟨d, ls⟩, ?_⟩
      rw [← htold, ← bytes_told hval]
      exact parse_bytes hcheck hok
  | [], _, _, h => cases h
  | [_], _, _, h => cases h
  | [_, _], _, _, h => cases h
  | [_, _, _], _, _, h => cases h
  | [_, _, _, _], _, _, h => cases h
  | [_, _, _, _, _], _, _, h => cases h
  | [_, _, _, _, _, _], _, _, h => cases h
  | [_, _, _, _, _, _, _], _, _, h => cases h
  | [_, _, _, _, _, _, _, _], _, _, h => cases h
/-- the law's reader accepts exactly what Parse accepts -/
theorem acc_iff {b : List Int} (hb : ∀ z ∈ b, u8k z) (hl : b.length ≤ 4096) : accB b = (parseC b).isSome := by
  cases h : parseC b with
  | none =>
    cases ha : accB b with
    | false => rfl
    | true =>
      obtain ⟨c, hc⟩ := acc_parse hb hl ha
      rw [hc] at h
      cases h
  | some c =>
    obtain ⟨h1, h2, h3⟩ := parse_inv hb h
    rw [← h1]
    exact acc_told h2 h3
end Go.Proofs.YtjgncofhobhjdaaDoor
/- Same as data: what it reports. No condition; nothing of the program. -/
namespace Go.Proofs.YtjgncofhobhjdaaDoor
open Go.RowKit

theorem sameL_iff {α : Type} {f : α → α → Bool} : ∀ {l m : List α}, (∀ a ∈ l, ∀ b ∈ m, f a b = true ↔ a = b) → (sameL f l m = true ↔ l = m)
  | [], [], _ => by simp [sameL]
  | [], b :: m, _ => by simp [sameL]
  | a :: l, [], _ => by simp [sameL]
  | a :: l, b :: m, h => by
    have ih := sameL_iff (f := f) (l := l) (m := m) (fun x hx y hy => h x (List.mem_cons_of_mem _ hx) y (List.mem_cons_of_mem _ hy))
    have h1 := h a List.mem_cons_self b List.mem_cons_self
    unfold sameL
    rw [Bool.and_eq_true, h1, ih]
    constructor
    · rintro ⟨rfl, rfl⟩; rfl
    · intro e; injection e with e1 e2; exact ⟨e1, e2⟩
theorem sameEp_iff (a b : EpD) : sameEp a b = true ↔ a = b := by
  obtain ⟨a1, a2, a3, a4, a5⟩ := a
  obtain ⟨b1, b2, b3, b4, b5⟩ := b
  unfold sameEp
  simp only [Bool.and_eq_true, beq_iff_eq, EpD.mk.injEq]
  constructor
  · rintro ⟨⟨⟨⟨h1, h2⟩, h3⟩, h4⟩, h5⟩; exact ⟨h1, h2, h3, h4, h5⟩
  · rintro ⟨h1, h2, h3, h4, h5⟩; exact ⟨⟨⟨⟨h1, h2⟩, h3⟩, h4⟩, h5⟩
theorem sameIfD_iff (a b : IfD) : sameIfD a b = true ↔ a = b := by
  obtain ⟨a1, a2, a3, a4, a5, a6, a7⟩ := a
  obtain ⟨b1, b2, b3, b4, b5, b6, b7⟩ := b
  unfold sameIfD
  simp only [Bool.and_eq_true, beq_iff_eq, IfD.mk.injEq]
  constructor
  · rintro ⟨⟨⟨⟨⟨⟨h1, h2⟩, h3⟩, h4⟩, h5⟩, h6⟩, h7⟩; exact ⟨h1, h2, h3, h4, h5, h6, h7⟩
  · rintro ⟨h1, h2, h3, h4, h5, h6, h7⟩; exact ⟨⟨⟨⟨⟨⟨h1, h2⟩, h3⟩, h4⟩, h5⟩, h6⟩, h7⟩
theorem sameCfgD_iff (a b : CfgD) : sameCfgD a b = true ↔ a = b := by
  obtain ⟨a1, a2, a3, a4, a5, a6, a7⟩ := a
  obtain ⟨b1, b2, b3, b4, b5, b6, b7⟩ := b
  unfold sameCfgD
  simp only [Bool.and_eq_true, beq_iff_eq, CfgD.mk.injEq]
  constructor
  · rintro ⟨⟨⟨⟨⟨⟨h1, h2⟩, h3⟩, h4⟩, h5⟩, h6⟩, h7⟩; exact ⟨h1, h2, h3, h4, h5, h6, h7⟩
  · rintro ⟨h1, h2, h3, h4, h5, h6, h7⟩; exact ⟨⟨⟨⟨⟨⟨h1, h2⟩, h3⟩, h4⟩, h5⟩, h6⟩, h7⟩
theorem sameAlt_iff (a b : Alt) : sameAlt a b = true ↔ a = b := by
  obtain ⟨a1, a2, a3⟩ := a
  obtain ⟨b1, b2, b3⟩ := b
  unfold sameAlt
  simp only [Bool.and_eq_true, beq_iff_eq, Alt.mk.injEq, sameIfD_iff]
  rw [sameL_iff (fun x _ y _ => sameEp_iff x y)]
  constructor
  · rintro ⟨⟨h1, h2⟩, h3⟩; exact ⟨h1, h2, h3⟩
  · rintro ⟨h1, h2, h3⟩; exact ⟨⟨h1, h2⟩, h3⟩
theorem sameS_iff (a b : Cfg) : sameS a b = true ↔ a = b := by
  obtain ⟨a1, a2⟩ := a
  obtain ⟨b1, b2⟩ := b
  unfold sameS
  rw [Bool.and_eq_true, sameCfgD_iff, sameL_iff (fun x _ y _ => sameL_iff (fun p _ q _ => sameAlt_iff p q)), Cfg.mk.injEq]
/-- of valid configurations the bytes tell all -/
theorem told_inj {a b : Cfg} (ha : checkS a = 0) (hb : checkS b = 0) (oa : a.ok) (ob : b.ok) (h : toldS a = toldS b) : a = b := by
  have h1 := parse_bytes ha oa
  have h2 := parse_bytes hb ob
  rw [bytes_told (check_of ha).valid] at h1
  rw [bytes_told (check_of hb).valid, ← h, h1] at h2
  injection h2
theorem ofAlt_u8 {i j : Nat} {a : PA} (h : a.ok ∧ a.eps.length ≤ 4 ∧ a.extra.length ≤ 3) (hi : i < 6) (hj : j < 4) : (ofAlt i j a).ok := by
  obtain ⟨⟨h1, h2, h3, h4⟩, h5, h6⟩ := h
  unfold u8k at h1 h2
  refine ⟨⟨?_, ?_, ?_, ?_, ?_, ?_, ?_⟩, ?_, ?_⟩
  · show u8k (i : Int); unfold u8k; omega
  · show u8k (j : Int); unfold u8k; omega
  · show u8k (a.eps.length : Int); unfold u8k; omega
  · exact h1
  · show u8k (a.cls / 2); unfold u8k; omega
  · show u8k (a.cls % 5); unfold u8k; omega
  · show u8k (a.text % 8); unfold u8k; omega
  · intro z hz
    change z ∈ (a.extra.mapIdx fun k z => ofX k z).flatten at hz
    obtain ⟨b, hb, hz⟩ := List.mem_flatten.1 hz
    obtain ⟨k, hk, rfl⟩ := List.mem_mapIdx.1 hb
    have := h3 _ (List.getElem_mem hk)
    unfold u8k at this ⊢
    unfold ofX at hz
    rcases List.mem_cons.1 hz with rfl | hz
    · omega
    · rcases List.mem_cons.1 hz with rfl | hz
      · omega
      · rw [List.eq_of_mem_replicate hz]; omega
  · intro e he
    change e ∈ a.eps.mapIdx fun k e => ofEp i k e at he
    obtain ⟨k, hk, rfl⟩ := List.mem_mapIdx.1 he
    obtain ⟨⟨k0, k1⟩, ⟨v0, v1⟩, ⟨m0, m1⟩⟩ := h4 _ (List.getElem_mem hk)
    refine ⟨?_, ?_, ?_, ?_⟩
    · show u8k ((1 + (((4 * i + k) / 2 : Nat) : Int)) % 256); unfold u8k; omega
    · show u8k (1 + (a.eps[k]).kind % 3); unfold u8k; omega
    · show u16k (1 + (a.eps[k]).max % 1024); unfold u16k; omega
    · show u8k (if (a.eps[k]).kind % 3 = 0 then 1 + (a.eps[k]).ivl % 16 else if (a.eps[k]).kind % 3 = 2 then 1 + (a.eps[k]).ivl % 255 else 0)
      unfold u8k
      split
      · omega
      · split <;> omega
theorem of_ok {x : PC} (h : bigS x = false) (hx : x.ok) : (ofS x).ok := by
  have hS := small_of h hx
  have hz := of_size h hx
  obtain ⟨o1, o2, o3, _⟩ := hx
  unfold u8k at o1 o2 o3
  refine ⟨⟨?_, ?_, ?_, ?_, ?_⟩, ?_⟩
  · show u16k (sizeS (ofS x) : Int); unfold u16k; omega
  · show u8k ((ifsOr x.ifs).length : Int); have := hS.many; unfold u8k; omega
  · show u8k (1 + x.number % 8); unfold u8k; omega
  · show u8k (x.text % 8); unfold u8k; omega
  · show u8k (x.power % 251); unfold u8k; omega
  · intro l hl a ha
    change l ∈ ofIfs x.ifs at hl
    unfold ofIfs at hl
    obtain ⟨i, hi, rfl⟩ := List.mem_mapIdx.1 hl
    obtain ⟨j, hj, rfl⟩ := List.mem_mapIdx.1 ha
    obtain ⟨h2, _, h3⟩ := hS.each _ (List.getElem_mem hi)
    exact ofAlt_u8 (h3 _ (List.getElem_mem hj)) (by have := hS.many; omega) (by omega)
end Go.Proofs.YtjgncofhobhjdaaDoor
/- The text of a configuration, as plain data, and its length. No condition; nothing of the program. -/
namespace Go.Proofs.YtjgncofhobhjdaaDoor
open Go.RowKit

def B8 (l : List UInt8) : ByteArray := ⟨l.toArray⟩
theorem B8_list (l : List UInt8) : (B8 l).data.toList = l := rfl
theorem B8_size (l : List UInt8) : (B8 l).size = l.length := rfl
theorem B8_inj {a b : ByteArray} (h : a.data.toList = b.data.toList) : a = b := by
  cases a with | mk a => cases b with | mk b => congr 1; exact Array.toList_inj.1 h
theorem B8_of (s : ByteArray) : B8 s.data.toList = s := B8_inj rfl
def sConfiguration : List UInt8 := [99, 111, 110, 102, 105, 103, 117, 114, 97, 116, 105, 111, 110]
def sInterfaces : List UInt8 := [105, 110, 116, 101, 114, 102, 97, 99, 101, 115]
def sBytes : List UInt8 := [98, 121, 116, 101, 115]
def sCurrent : List UInt8 := [99, 117, 114, 114, 101, 110, 116]
def sSelf : List UInt8 := [115, 101, 108, 102]
def sWakeup : List UInt8 := [119, 97, 107, 101, 117, 112]
def sText : List UInt8 := [116, 101, 120, 116, 32]
def sInterface : List UInt8 := [105, 110, 116, 101, 114, 102, 97, 99, 101]
def sClass : List UInt8 := [99, 108, 97, 115, 115]
def sExtra : List UInt8 := [101, 120, 116, 114, 97]
def sEndpoint : List UInt8 := [101, 110, 100, 112, 111, 105, 110, 116]
def sIso : List UInt8 := [105, 115, 111, 99, 104, 114, 111, 110, 111, 117, 115]
def sBulk : List UInt8 := [98, 117, 108, 107]
def sInt : List UInt8 := [105, 110, 116, 101, 114, 114, 117, 112, 116]
def nonE (l : List (List UInt8)) : List (List UInt8) := l.filter fun x => !x.isEmpty
/-- a line -/
def lineW (ws : List (List UInt8)) : List UInt8 := Lib.join (nonE ws) [32] ++ [10]
def wordW (b : Bool) (s : List UInt8) : List UInt8 := if b then s else []
def textW (n : Int) : List UInt8 := wordW (decide (0 < n)) (sText ++ Lib.itoa n)
def cfgW (d : CfgD) : List (List UInt8) := [sConfiguration, Lib.itoa d.number, sInterfaces, Lib.itoa d.ifs, sBytes, Lib.itoa d.total, sCurrent, Lib.itoa (2 * d.power), wordW d.self sSelf, wordW d.wake sWakeup, textW d.text]
def ifW (d : IfD) : List (List UInt8) := [sInterface, Lib.itoa d.num, Lib.itoa d.alt, sClass, Lib.itoa d.cls, Lib.itoa d.sub, Lib.itoa d.proto, textW d.text]
def exW (b : List Int) : List (List UInt8) := [sExtra, Lib.itoa (byteAt b 1), Lib.itoa (byteAt b 0)]
def kindsW : List (List UInt8) := [[], sIso, sBulk, sInt]
def kindN (k : Int) : List UInt8 := kindsW.getD k.toNat []
def epW (e : EpD) : List (List UInt8) := [sEndpoint, Lib.itoa (addrS e), kindN e.kind, Lib.itoa e.max, wordW (decide (0 < e.ivl)) (Lib.itoa e.ivl)]
def exText (l : List (List Int)) : List UInt8 := l.flatMap fun b => lineW (exW b)
def epText (l : List EpD) : List UInt8 := l.flatMap fun e => lineW (epW e)
def altText (a : Alt) : List UInt8 := lineW (ifW a.d) ++ exText ((divide a.extra).getD []) ++ epText a.eps
def ifText (l : List Alt) : List UInt8 := l.flatMap altText
def textL (c : Cfg) : List UInt8 := lineW (cfgW c.d) ++ c.ifs.flatMap ifText
def textS (c : Cfg) : List UInt8 := if checkS c = 0 then textL c else []
theorem itoa_len {n : Int} (h0 : 0 ≤ n) (h1 : n < 1000000) : (Lib.itoa n).length ≤ 21 := Lib.itoa_length_le n (by omega) (by omega)
theorem itoa_ne (n : Int) : Lib.itoa n ≠ [] := by
  unfold Lib.itoa
  split
  · exact List.cons_ne_nil _ _
  · intro h
    have h1 := Lib.decDigits_length n.toNat
    rw [h] at h1
    have h2 := Lib.nDigits_pos n.toNat
    simp at h1
    omega
theorem join_le : ∀ (l : List (List UInt8)) (B : Nat), (∀ x ∈ l, x.length ≤ B) → (Lib.join l [32]).length ≤ l.length * (B + 1)
  | [], _, _ => Nat.zero_le _
  | x :: l, B, h => by
    rw [Lib.join_length]
    have h1 : Lib.lens (x :: l) ≤ (x :: l).length * B := by
      unfold Lib.lens
      rw [← List.length_map (as := x :: l) (f := List.length)]
      refine sum_le _ B ?_
      intro z hz
      obtain ⟨y, hy, rfl⟩ := List.mem_map.1 hz
      exact h y hy
    rw [Nat.mul_add]
    simp only [List.length_cons, List.length_nil] at h1 ⊢
    omega
theorem nonE_len (l : List (List UInt8)) : (nonE l).length ≤ l.length := List.length_filter_le _ _
theorem lineW_len {ws : List (List UInt8)} (h : ∀ x ∈ ws, x.length ≤ 30) (hn : ws.length ≤ 11) : (lineW ws).length ≤ 400 := by
  unfold lineW
  rw [List.length_append, List.length_singleton]
  have h1 := join_le (nonE ws) 30 (fun x hx => h x ((List.mem_filter.1 hx).1))
  have h2 := nonE_len ws
  have h3 : (nonE ws).length * 31 ≤ 11 * 31 := Nat.mul_le_mul_right _ (by omega)
  omega
theorem textW_len {n : Int} (h : u8k n) : (textW n).length ≤ 30 := by
  unfold textW wordW
  have := itoa_len h.1 (by have := h.2; omega)
  split
  · rw [List.length_append]; have : sText.length = 5 := rfl; omega
  · exact Nat.zero_le _
theorem itoa_30 {n : Int} (h : u8k n) : (Lib.itoa n).length ≤ 30 := Nat.le_trans (itoa_len h.1 (by have := h.2; omega)) (by decide)
theorem itoa_30w {n : Int} (h0 : 0 ≤ n) (h1 : n < 200000) : (Lib.itoa n).length ≤ 30 := Nat.le_trans (itoa_len h0 (by omega)) (by decide)
theorem wordW_len {b : Bool} {s : List UInt8} (h : s.length ≤ 30) : (wordW b s).length ≤ 30 := by
  unfold wordW
  split
  · exact h
  · exact Nat.zero_le _
theorem cfgLine_len {d : CfgD} (h : d.ok) : (lineW (cfgW d)).length ≤ 400 := by
  obtain ⟨a, b, c, e, f⟩ := h
  refine lineW_len (fun x hx => ?_) (by show 11 ≤ 11; decide)
  simp only [cfgW, List.mem_cons, List.not_mem_nil, or_false] at hx
  rcases hx with rfl | rfl | rfl | rfl | rfl | rfl | rfl | rfl | rfl | rfl | rfl
  · decide
  · exact itoa_30 c
  · decide
  · exact itoa_30 b
  · decide
  · exact itoa_30w a.1 (by have := a.2; omega)
  · decide
  · exact itoa_30w (by have := f.1; omega) (by have := f.2; omega)
  · exact wordW_len (by decide)
  · exact wordW_len (by decide)
  · exact textW_len e
theorem ifLine_len {d : IfD} (h : d.ok) : (lineW (ifW d)).length ≤ 400 := by
  obtain ⟨a, b, c, e, f, g, k⟩ := h
  refine lineW_len (fun x hx => ?_) (by show 8 ≤ 11; decide)
  simp only [ifW, List.mem_cons, List.not_mem_nil, or_false] at hx
  rcases hx with rfl | rfl | rfl | rfl | rfl | rfl | rfl | rfl
  · decide
  · exact itoa_30 a
  · exact itoa_30 b
  · decide
  · exact itoa_30 e
  · exact itoa_30 f
  · exact itoa_30 g
  · exact textW_len k
theorem exLine_len {b : List Int} (h : ∀ z ∈ b, u8k z) : (lineW (exW b)).length ≤ 400 := by
  have hb : ∀ i, u8k (byteAt b i) := fun i => by
    unfold byteAt
    rw [List.getD_eq_getElem?_getD]
    cases hx : b[i]? with
    | none => exact ⟨by decide, by decide⟩
    | some x => exact h x (List.mem_of_getElem? hx)
  refine lineW_len (fun x hx => ?_) (by show 3 ≤ 11; decide)
  simp only [exW, List.mem_cons, List.not_mem_nil, or_false] at hx
  rcases hx with rfl | rfl | rfl
  · decide
  · exact itoa_30 (hb 1)
  · exact itoa_30 (hb 0)
theorem addrS_small (e : EpD) : 0 ≤ addrS e ∧ addrS e < 256 := by unfold addrS; split <;> omega
theorem kindN_len (k : Int) : (kindN k).length ≤ 30 := by
  have h : ∀ x ∈ kindsW, x.length ≤ 30 := by decide
  unfold kindN
  rw [List.getD_eq_getElem?_getD]
  cases hx : kindsW[k.toNat]? with
  | none => exact Nat.zero_le _
  | some x => exact h x (List.mem_of_getElem? hx)
theorem epLine_len {e : EpD} (h : e.ok) : (lineW (epW e)).length ≤ 400 := by
  obtain ⟨a, b, c, f⟩ := h
  refine lineW_len (fun x hx => ?_) (by show 5 ≤ 11; decide)
  simp only [epW, List.mem_cons, List.not_mem_nil, or_false] at hx
  rcases hx with rfl | rfl | rfl | rfl | rfl
  · decide
  · exact itoa_30 (addrS_small e)
  · exact kindN_len _
  · exact itoa_30w c.1 (by have := c.2; omega)
  · exact wordW_len (itoa_30 f)
theorem flat_le {α : Type} (f : α → List UInt8) (n : α → Nat) : ∀ (l : List α), (∀ a ∈ l, (f a).length ≤ 400 * n a) → (l.flatMap f).length ≤ 400 * (l.map n).sum
  | [], _ => Nat.zero_le _
  | a :: l, h => by
    rw [List.flatMap_cons, List.length_append, List.map_cons, List.sum_cons]
    have h1 := h a List.mem_cons_self
    have h2 := flat_le f n l fun x hx => h x (List.mem_cons_of_mem _ hx)
    omega
theorem sum_const {α : Type} (k : Nat) : ∀ (l : List α), (l.map fun _ => k).sum = l.length * k
  | [] => by simp
  | a :: l => by rw [List.map_cons, List.sum_cons, sum_const k l, List.length_cons, Nat.succ_mul]; omega
theorem altText_len {a : Alt} (h : a.ok) (hx : ∃ l, divide a.extra = some l) : (altText a).length ≤ 400 * altSize a := by
  obtain ⟨h0, h1, h2⟩ := h
  obtain ⟨l, hl⟩ := hx
  obtain ⟨hf, hp, _⟩ := divide_inv hl
  have hpl : l.length ≤ a.extra.length := by rw [← hf]; exact flatten_len l (fun b hb => by have := (hp b hb).1; omega)
  have hb : ∀ b ∈ l, ∀ z ∈ b, u8k z := fun b hb z hz => h1 z (by rw [← hf]; exact List.mem_flatten.2 ⟨b, hb, hz⟩)
  unfold altText altSize
  rw [hl]
  rw [List.length_append, List.length_append]
  have e1 := ifLine_len h0
  have e2 : (exText l).length ≤ 400 * (l.map fun _ => 1).sum := flat_le _ _ l fun b h => exLine_len (hb b h)
  have e3 : (epText a.eps).length ≤ 400 * (a.eps.map fun _ => 1).sum := flat_le _ _ a.eps fun b h => epLine_len (h2 b h)
  rw [sum_const, Nat.mul_one] at e2 e3
  show (lineW (ifW a.d)).length + (exText l).length + (epText a.eps).length ≤ _
  omega
theorem textL_len {c : Cfg} (h : c.ok) (hx : ∀ l ∈ c.ifs, ∀ a ∈ l, ∃ p, divide a.extra = some p) : (textL c).length ≤ 400 * sizeS c := by
  unfold textL sizeS
  rw [List.length_append]
  have h1 := cfgLine_len h.1
  have h2 := flat_le ifText (fun l => (l.map altSize).sum) c.ifs fun l hl => flat_le altText altSize l fun a ha => altText_len (h.2 l hl a ha) (hx l hl a ha)
  omega
def sXCfg : List UInt8 := [99, 111, 110, 102, 105, 103, 117, 114, 97, 116, 105, 111, 110, 32]
def sXIfs : List UInt8 := [32, 105, 110, 116, 101, 114, 102, 97, 99, 101, 115, 32]
def sXBytes : List UInt8 := [32, 98, 121, 116, 101, 115, 32]
def sXCur : List UInt8 := [32, 99, 117, 114, 114, 101, 110, 116, 32]
def sXSelf : List UInt8 := [32, 115, 101, 108, 102]
def sXWake : List UInt8 := [32, 119, 97, 107, 101, 117, 112]
def sXText : List UInt8 := [32, 116, 101, 120, 116, 32]
def sXIf : List UInt8 := [105, 110, 116, 101, 114, 102, 97, 99, 101, 32]
def sXCls : List UInt8 := [32, 99, 108, 97, 115, 115, 32]
def sXEx : List UInt8 := [101, 120, 116, 114, 97, 32]
def sXEp : List UInt8 := [101, 110, 100, 112, 111, 105, 110, 116, 32]
/-- the law's words -/
def namedW (n : Int) : List UInt8 := if n = 0 then [] else sXText ++ Lib.itoa n
def lawCfg (d : CfgD) : List UInt8 := sXCfg ++ Lib.itoa d.number ++ sXIfs ++ Lib.itoa d.ifs ++ sXBytes ++ Lib.itoa d.total ++ sXCur ++ Lib.itoa (2 * d.power) ++ wordW d.self sXSelf ++ wordW d.wake sXWake ++ namedW d.text ++ [10]
def lawIf (d : IfD) : List UInt8 := sXIf ++ Lib.itoa d.num ++ [32] ++ Lib.itoa d.alt ++ sXCls ++ Lib.itoa d.cls ++ [32] ++ Lib.itoa d.sub ++ [32] ++ Lib.itoa d.proto ++ namedW d.text ++ [10]
def lawEx (b : List Int) : List UInt8 := sXEx ++ Lib.itoa (byteAt b 1) ++ [32] ++ Lib.itoa (byteAt b 0) ++ [10]
def lawEp (e : EpD) : List UInt8 := sXEp ++ Lib.itoa (addrS e) ++ [32] ++ kindN e.kind ++ [32] ++ Lib.itoa e.max ++ (if e.kind = 2 then [] else [32] ++ Lib.itoa e.ivl) ++ [10]
theorem itoa_e (n : Int) : (Lib.itoa n).isEmpty = false := by
  cases h : Lib.itoa n with
  | nil => exact absurd h (itoa_ne n)
  | cons a l => rfl
theorem lawCfg_eq {d : CfgD} (h : 0 ≤ d.text) : lineW (cfgW d) = lawCfg d := by
  unfold lineW cfgW lawCfg textW namedW
  by_cases h0 : d.text = 0
  · rw [if_pos h0, show decide (0 < d.text) = false from decide_eq_false (by omega)]
    cases d.self <;> cases d.wake <;> simp [nonE, wordW, itoa_e, Lib.join_cons, Lib.joinTail, sXCfg, sXIfs, sXBytes, sXCur, sXSelf, sXWake, sXText, sXIf, sXCls, sXEx, sXEp, sConfiguration, sInterfaces, sBytes, sCurrent, sSelf, sWakeup, sText, sInterface, sClass, sExtra, sEndpoint, sIso, sBulk, sInt]
  · rw [if_neg h0, show decide (0 < d.text) = true from decide_eq_true (by omega)]
    cases d.self <;> cases d.wake <;> simp [nonE, wordW, itoa_e, Lib.join_cons, Lib.joinTail, sXCfg, sXIfs, sXBytes, sXCur, sXSelf, sXWake, sXText, sXIf, sXCls, sXEx, sXEp, sConfiguration, sInterfaces, sBytes, sCurrent, sSelf, sWakeup, sText, sInterface, sClass, sExtra, sEndpoint, sIso, sBulk, sInt]
theorem lawIf_eq {d : IfD} (h : 0 ≤ d.text) : lineW (ifW d) = lawIf d := by
  unfold lineW ifW lawIf textW namedW
  by_cases h0 : d.text = 0
  · rw [if_pos h0, show decide (0 < d.text) = false from decide_eq_false (by omega)]
    simp [nonE, wordW, itoa_e, Lib.join_cons, Lib.joinTail, sXCfg, sXIfs, sXBytes, sXCur, sXSelf, sXWake, sXText, sXIf, sXCls, sXEx, sXEp, sConfiguration, sInterfaces, sBytes, sCurrent, sSelf, sWakeup, sText, sInterface, sClass, sExtra, sEndpoint, sIso, sBulk, sInt]
  · rw [if_neg h0, show decide (0 < d.text) = true from decide_eq_true (by omega)]
    simp [nonE, wordW, itoa_e, Lib.join_cons, Lib.joinTail, sXCfg, sXIfs, sXBytes, sXCur, sXSelf, sXWake, sXText, sXIf, sXCls, sXEx, sXEp, sConfiguration, sInterfaces, sBytes, sCurrent, sSelf, sWakeup, sText, sInterface, sClass, sExtra, sEndpoint, sIso, sBulk, sInt]
theorem lawEx_eq (b : List Int) : lineW (exW b) = lawEx b := by
  unfold lineW exW lawEx
  simp [nonE, itoa_e, Lib.join_cons, Lib.joinTail, sXCfg, sXIfs, sXBytes, sXCur, sXSelf, sXWake, sXText, sXIf, sXCls, sXEx, sXEp, sConfiguration, sInterfaces, sBytes, sCurrent, sSelf, sWakeup, sText, sInterface, sClass, sExtra, sEndpoint, sIso, sBulk, sInt]
theorem lawEp_eq {e : EpD} (h : okEp e = true) : lineW (epW e) = lawEp e := by
  obtain ⟨_, _, _, _, hk⟩ := okEp_num h
  have hi : (e.kind = 2 → e.ivl = 0) ∧ (e.kind ≠ 2 → 0 < e.ivl) := by
    unfold okEp at h
    simp only [Bool.and_eq_true, decide_eq_true_eq] at h
    obtain ⟨_, h⟩ := h
    refine ⟨fun h2 => ?_, fun h2 => ?_⟩
    · rw [if_pos h2] at h
      simpa using h
    · rw [if_neg h2] at h
      rcases hk with hk | hk | hk
      · rw [if_pos hk] at h
        simp only [Bool.and_eq_true, decide_eq_true_eq] at h
        omega
      · exact absurd hk h2
      · rw [if_neg (by omega), if_pos hk] at h
        simp only [decide_eq_true_eq] at h
        omega
  unfold lineW epW lawEp
  rcases hk with hk | hk | hk
  · rw [hk, if_neg (by decide), show decide (0 < e.ivl) = true from decide_eq_true (hi.2 (by omega))]
    simp [nonE, wordW, itoa_e, Lib.join_cons, Lib.joinTail, kindN, kindsW, sXCfg, sXIfs, sXBytes, sXCur, sXSelf, sXWake, sXText, sXIf, sXCls, sXEx, sXEp, sConfiguration, sInterfaces, sBytes, sCurrent, sSelf, sWakeup, sText, sInterface, sClass, sExtra, sEndpoint, sIso, sBulk, sInt]
  · rw [hk, if_pos rfl, hi.1 hk]
    simp [nonE, wordW, itoa_e, Lib.join_cons, Lib.joinTail, kindN, kindsW, sXCfg, sXIfs, sXBytes, sXCur, sXSelf, sXWake, sXText, sXIf, sXCls, sXEx, sXEp, sConfiguration, sInterfaces, sBytes, sCurrent, sSelf, sWakeup, sText, sInterface, sClass, sExtra, sEndpoint, sIso, sBulk, sInt]
  · rw [hk, if_neg (by decide), show decide (0 < e.ivl) = true from decide_eq_true (hi.2 (by omega))]
    simp [nonE, wordW, itoa_e, Lib.join_cons, Lib.joinTail, kindN, kindsW, sXCfg, sXIfs, sXBytes, sXCur, sXSelf, sXWake, sXText, sXIf, sXCls, sXEx, sXEp, sConfiguration, sInterfaces, sBytes, sCurrent, sSelf, sWakeup, sText, sInterface, sClass, sExtra, sEndpoint, sIso, sBulk, sInt]
end Go.Proofs.YtjgncofhobhjdaaDoor
