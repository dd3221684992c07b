/- The laws Check and Fill as plain data. -/
import Derived.Test.YtjgncofhobhjdaaDoorChecked
import Derived.Deep.RegionHeld3
import Derived.Deep.DrawnRows
import Derived.Deep.DeepCutAuto
import Derived.Deep.LoopGhost
import Derived.Outline
import Derived.Handy
import Derived.OwnWalk
import Derived.BigQuiet
import Derived.Test.YtjgncofhobhjdaaDoorN4
import Derived.Test.YtjgncofhobhjdaaDoorN2
import Derived.Test.YtjgncofhobhjdaaDoorYeK
set_option linter.unusedVariables false
set_option linter.unusedSimpArgs false
set_option linter.unusedSectionVars false
/- The law Check: a configuration with one defect has the error of the chapter. No condition but those named; nothing of the program. -/
namespace Go.Proofs.YtjgncofhobhjdaaDoor
open Go.RowKit

theorem small_chk {C : Cfg} (h : checkS C = 0) : SmallE C := by
  intro l hl a ha e he
  have h1 := (check_of h).valid.alts l hl a ha
  unfold altOk at h1
  rw [Bool.and_eq_true] at h1
  have := okEp_num (List.all_eq_true.1 h1.2 e he)
  omega
theorem wrap_is8 (x : Int) : u8k (IntKind.u8.wrap x) := by
  have : IntKind.u8.wrap x = x % 256 := by simp [IntKind.wrap, IntKind.signed, IntKind.bits]
  unfold u8k
  omega
theorem of_many {x : PC} (h : bigS x = false) : (ofS x).ifs.length ≤ 6 := by
  have h1 := (big_alt h).1
  show (ofIfs x.ifs).length ≤ 6
  rw [ofIfs_len]
  unfold ifsOr
  split
  · simp
  · exact h1
/-- nothing is too much -/
structure NoLimit (c : Cfg) : Prop where
  many : c.ifs.length ≤ 16
  size : sizeS c ≤ 4096
  each : ∀ l ∈ c.ifs, l.length ≤ 16
theorem NoLimit.no {c : Cfg} (h : NoLimit c) : limitS c = false := by
  unfold limitS
  simp only [Bool.or_eq_false_iff, decide_eq_false_iff_not, List.any_eq_false, decide_eq_true_eq]
  exact ⟨⟨by have := h.many; omega, by have := h.size; omega⟩, fun l hl => by have := h.each l hl; omega⟩
theorem check_bad {c : Cfg} (h : NoLimit c) (hb : ¬ CheckC c) : checkS c = 1 := by
  by_cases h0 : checkS c = 0
  · exact absurd (check_of h0) hb
  · unfold checkS at h0 ⊢
    rw [if_neg (by rw [h.no]; decide)] at h0 ⊢
    split at h0
    · exact absurd rfl h0
    · rename_i hn; rw [if_neg hn]
theorem check_lim {c : Cfg} (h : limitS c = true) : checkS c = 3 := by unfold checkS; rw [if_pos h]
theorem CheckC.noLimit {c : Cfg} (h : CheckC c) : NoLimit c := ⟨h.many, h.size, fun l hl => (h.each l hl).1⟩
theorem alts_at_counted (i : Nat) : ∀ (l : List Alt) (s j : Nat) (a : Alt), altsCounted i s l = true → l[j]? = some a → a.d.num = (i : Int) ∧ a.d.alt = ((s + j : Nat) : Int) ∧ a.d.eps = (a.eps.length : Int)
  | [], s, j, a, _, h => by simp at h
  | b :: l, s, 0, a, hc, h => by
    have e : b = a := by simpa using h
    subst e
    unfold altsCounted at hc
    simp only [Bool.and_eq_true, decide_eq_true_eq] at hc
    exact ⟨hc.1.1.1, hc.1.1.2, hc.1.2⟩
  | b :: l, s, j + 1, a, hc, h => by
    unfold altsCounted at hc
    simp only [Bool.and_eq_true, decide_eq_true_eq] at hc
    have h1 := alts_at_counted i l (s + 1) j a hc.2 (by simpa using h)
    rw [show s + 1 + j = s + (j + 1) by omega] at h1
    exact h1
theorem ifs_at_counted : ∀ (I : List (List Alt)) (s i : Nat) (l : List Alt), ifsCounted s I = true → I[i]? = some l → altsCounted (s + i) 0 l = true
  | [], s, i, l, _, h => by simp at h
  | x :: I, s, 0, l, hc, h => by
    have e : x = l := by simpa using h
    subst e
    unfold ifsCounted at hc
    rw [Bool.and_eq_true] at hc
    exact hc.1
  | x :: I, s, i + 1, l, hc, h => by
    unfold ifsCounted at hc
    rw [Bool.and_eq_true] at hc
    have h1 := ifs_at_counted I (s + 1) i l hc.2 (by simpa using h)
    rw [show s + 1 + i = s + (i + 1) by omega] at h1
    exact h1
section
variable {D D' : CfgD} {I : List (List Alt)} {i j : Nat} {l : List Alt} {a a' : Alt} {n t : Int}
theorem at_counted (h : CheckC ⟨D, I⟩) (hl : I[i]? = some l) (ha : l[j]? = some a) : a.d.num = (i : Int) ∧ a.d.alt = (j : Int) ∧ a.d.eps = (a.eps.length : Int) := by
  have h1 := alts_at_counted _ l 0 j a (ifs_at_counted I 0 i l h.counted hl) ha
  simpa using h1
theorem set_at_if (hl : I[i]? = some l) {l' : List Alt} : (I.set i l')[i]? = some l' := by
  rw [List.getElem?_set, if_pos rfl, if_pos (List.getElem?_eq_some_iff.1 hl).1]
theorem set_at_alt (ha : l[j]? = some a) : (l.set j a')[j]? = some a' := by
  rw [List.getElem?_set, if_pos rfl, if_pos (List.getElem?_eq_some_iff.1 ha).1]
theorem sum_set_nat : ∀ (l : List Nat) (i x y : Nat), l[i]? = some x → (l.set i y).sum + x = l.sum + y
  | [], i, x, y, h => by simp at h
  | z :: l, 0, x, y, h => by
    have e : z = x := by simpa using h
    subst e
    simp only [List.set_cons_zero, List.sum_cons]
    omega
  | z :: l, i + 1, x, y, h => by
    have := sum_set_nat l i x y (by simpa using h)
    simp only [List.set_cons_succ, List.sum_cons]
    omega
theorem CheckC.noLimit' (h : CheckC ⟨D, I⟩) : NoLimit ⟨D', I⟩ := ⟨h.many, h.size, fun l hl => (h.each l hl).1⟩
theorem sumC_set (hl : I[i]? = some l) {l' : List Alt} : sumC (I.set i l') + sumIf l = sumC I + sumIf l' := by
  unfold sumC
  rw [List.map_set]
  exact sum_set_nat _ _ _ _ (by rw [List.getElem?_map, hl]; rfl)
theorem sumIf_set (ha : l[j]? = some a) : sumIf (l.set j a') + altSize a = sumIf l + altSize a' := by
  unfold sumIf
  rw [List.map_set]
  exact sum_set_nat _ _ _ _ (by rw [List.getElem?_map, ha]; rfl)
theorem size_at (hl : I[i]? = some l) (ha : l[j]? = some a) : sizeS ⟨D', I.set i (l.set j a')⟩ + altSize a = sizeS ⟨D, I⟩ + altSize a' := by
  rw [sizeS_eq, sizeS_eq]
  have h1 := sumC_set hl (l' := l.set j a')
  have h2 := sumIf_set ha (a' := a')
  show 9 + sumC (I.set i (l.set j a')) + altSize a = 9 + sumC I + altSize a'
  omega
theorem NoLimit.set (h : CheckC ⟨D, I⟩) (hl : I[i]? = some l) (ha : l[j]? = some a) (hs : sizeS ⟨D, I⟩ + altSize a' ≤ 4096 + altSize a) : NoLimit ⟨D', I.set i (l.set j a')⟩ := by
  refine ⟨by have := h.many; simpa using this, ?_, fun x hx => ?_⟩
  · have := size_at (D := D) (D' := D') (a' := a') hl ha
    omega
  · rcases List.mem_or_eq_of_mem_set hx with hx | rfl
    · exact (h.each x hx).1
    · have := (h.each l (List.mem_of_getElem? hl)).1
      simpa using this
/- the descriptor of the configuration -/
theorem bad_total (h : CheckC ⟨D, I⟩) (ht : t ≠ D.total) : checkS ⟨{ D with total := t }, I⟩ = 1 := by
  refine check_bad h.noLimit' fun h2 => ht ?_
  have h3 : t = (sizeS ⟨{ D with total := t }, I⟩ : Int) := h2.total
  have h4 : D.total = (sizeS ⟨D, I⟩ : Int) := h.total
  rw [h3, h4]
  rfl
theorem bad_ifs (h : CheckC ⟨D, I⟩) (ht : t ≠ D.ifs) : checkS ⟨{ D with ifs := t }, I⟩ = 1 := by
  refine check_bad h.noLimit' fun h2 => ht ?_
  have h3 : t = (I.length : Int) := h2.ifs
  have h4 : D.ifs = (I.length : Int) := h.ifs
  rw [h3, h4]
theorem bad_number (h : CheckC ⟨D, I⟩) : checkS ⟨{ D with number := 0 }, I⟩ = 1 :=
  check_bad h.noLimit' fun h2 => by have h3 := h2.valid.d; unfold okCfg at h3; simp at h3
theorem bad_power (h : CheckC ⟨D, I⟩) : checkS ⟨{ D with power := 251 }, I⟩ = 1 :=
  check_bad h.noLimit' fun h2 => by have h3 := h2.valid.d; unfold okCfg at h3; simp at h3
/- the descriptor of a setting -/
theorem bad_set (h : CheckC ⟨D, I⟩) (hl : I[i]? = some l) (ha : l[j]? = some a) (hs : sizeS ⟨D, I⟩ + altSize a' ≤ 4096 + altSize a) (hb : altOk a' = true → ¬ (a'.d.num = (i : Int) ∧ a'.d.alt = (j : Int) ∧ a'.d.eps = (a'.eps.length : Int))) :
    checkS ⟨D', I.set i (l.set j a')⟩ = 1 :=
  check_bad (NoLimit.set h hl ha hs) fun h2 => hb (h2.valid.alts _ (List.mem_of_getElem? (set_at_if hl)) a' (List.mem_of_getElem? (set_at_alt ha))) (at_counted h2 (set_at_if hl) (set_at_alt ha))
theorem bad_num (h : CheckC ⟨D, I⟩) (hl : I[i]? = some l) (ha : l[j]? = some a) (hn : n ≠ a.d.num) : checkS ⟨D, I.set i (l.set j { a with d := { a.d with num := n } })⟩ = 1 :=
  bad_set h hl ha (by have := h.size; show _ + altSize a ≤ _; omega) fun _ h2 => hn (h2.1.trans (at_counted h hl ha).1.symm)
theorem bad_alt (h : CheckC ⟨D, I⟩) (hl : I[i]? = some l) (ha : l[j]? = some a) (hn : n ≠ a.d.alt) : checkS ⟨D, I.set i (l.set j { a with d := { a.d with alt := n } })⟩ = 1 :=
  bad_set h hl ha (by have := h.size; show _ + altSize a ≤ _; omega) fun _ h2 => hn (h2.2.1.trans (at_counted h hl ha).2.1.symm)
theorem bad_eps (h : CheckC ⟨D, I⟩) (hl : I[i]? = some l) (ha : l[j]? = some a) (hn : n ≠ a.d.eps) : checkS ⟨D, I.set i (l.set j { a with d := { a.d with eps := n } })⟩ = 1 :=
  bad_set h hl ha (by have := h.size; show _ + altSize a ≤ _; omega) fun _ h2 => hn (h2.2.2.trans (at_counted h hl ha).2.2.symm)
/- the bytes of vendors -/
theorem divS_app : ∀ (l : List (List Int)) (n : Nat) (t : List Int), (∀ b ∈ l, 2 ≤ b.length ∧ b.head? = some (b.length : Int)) → l.length ≤ n → divS n (l.flatten ++ t) = (divS (n - l.length) t).map (l ++ ·)
  | [], n, t, _, _ => by simp
  | b :: l, 0, t, h, hn => by simp at hn
  | b :: l, n + 1, t, h, hn => by
    obtain ⟨h1, h2⟩ := h b List.mem_cons_self
    cases b with
    | nil => simp at h1
    | cons x r =>
      have hx : x = ((x :: r).length : Int) := by simpa using h2
      rw [List.flatten_cons, List.append_assoc, List.cons_append]
      show (if x < 2 ∨ ((x :: (r ++ (l.flatten ++ t))).length : Int) < x then none else (divS n ((x :: (r ++ (l.flatten ++ t))).drop x.toNat)).map fun l' => (x :: (r ++ (l.flatten ++ t))).take x.toNat :: l') = _
      have ht : x.toNat = (x :: r).length := by rw [hx]; simp
      have hlen : ((x :: (r ++ (l.flatten ++ t))).length : Int) = (x :: r).length + (l.flatten ++ t).length := by simp; omega
      rw [if_neg (by rw [hlen]; simp at h1 hx ⊢; omega)]
      rw [ht, ← List.cons_append, List.drop_left, List.take_left, divS_app l n t (fun b hb => h b (List.mem_cons_of_mem _ hb)) (by simp at hn; omega)]
      rw [Option.map_map, show n + 1 - ((x :: r) :: l).length = n - l.length by simp]
      rfl
theorem extra_bad {x t : List Int} (hx : extraOk x = true) (ht : ∀ n l, divS n t = some l → ∃ b ∈ l, stdS (kindB b) = true) : extraOk (x ++ t) = false := by
  obtain ⟨l, hd, rfl, h1, h2⟩ := extra_pieces hx
  unfold extraOk
  cases he : divide (l.flatten ++ t) with
  | none => rfl
  | some m =>
    simp only
    unfold divide at he
    split at he
    · cases he
    · have hlen := flatten_len l (fun b hb => by have := (h1 b hb).1; omega)
      rw [divS_app l _ t h1 (by rw [List.length_append]; omega)] at he
      obtain ⟨m', hm', rfl⟩ := Option.map_eq_some_iff.1 he
      obtain ⟨b, hb, hk⟩ := ht _ _ hm'
      rw [List.all_eq_false]
      exact ⟨b, List.mem_append_right _ hb, by rw [hk]; decide⟩
theorem extra_one {x : List Int} (hx : extraOk x = true) : extraOk (x ++ [1]) = false := extra_bad hx fun n l h => by
  cases n with
  | zero => cases h
  | succ n => unfold divS at h; simp at h
theorem extra_two {x : List Int} (hx : extraOk x = true) {k : Int} (hk : stdS k = true) : extraOk (x ++ [2, k]) = false := extra_bad hx fun n l h => by
  cases n with
  | zero => cases h
  | succ n =>
    unfold divS at h
    simp at h
    obtain ⟨m, hm, rfl⟩ := h
    exact ⟨[2, k], List.mem_cons_self, hk⟩
theorem bad_extra (h : CheckC ⟨D, I⟩) (hl : I[i]? = some l) (ha : l[j]? = some a) {t : List Int} (hs : sizeS ⟨D, I⟩ + t.length ≤ 4096) (ht : ∀ x, extraOk x = true → extraOk (x ++ t) = false) : checkS ⟨D', I.set i (l.set j { a with extra := a.extra ++ t })⟩ = 1 := by
  have hsz : altSize { a with extra := a.extra ++ t } = altSize a + t.length := by unfold altSize; simp; omega
  refine bad_set h hl ha (by rw [hsz]; omega) fun hok _ => ?_
  have h1 := h.valid.alts l (List.mem_of_getElem? hl) a (List.mem_of_getElem? ha)
  unfold altOk at h1 hok
  simp only [Bool.and_eq_true] at h1 hok
  have h2 := ht _ h1.1.2
  rw [hok.1.2] at h2
  cases h2
/- the endpoints of a setting -/
theorem altSize_eps {es : List EpD} : altSize { a with eps := a.eps ++ es } = altSize a + 7 * es.length := by unfold altSize; simp; omega
theorem bad_ep (h : CheckC ⟨D, I⟩) (hl : I[i]? = some l) (ha : l[j]? = some a) {e : EpD} {d' : IfD} (hs : sizeS ⟨D, I⟩ + 7 ≤ 4096) (he : okEp e = false) : checkS ⟨D', I.set i (l.set j { a with d := d', eps := a.eps ++ [e] })⟩ = 1 := by
  have hsz : altSize { a with d := d', eps := a.eps ++ [e] } = altSize a + 7 := by unfold altSize; simp; omega
  refine bad_set h hl ha (by rw [hsz]; omega) fun hok _ => ?_
  unfold altOk at hok
  simp only [Bool.and_eq_true, List.all_eq_true] at hok
  have := hok.2 e (by simp)
  rw [he] at this
  cases this
theorem eps_twice (i : Nat) (e : EpD) : ∀ (es : List EpD) (o : Int → Option Nat) (s : Int → Bool), epsApart i (es ++ [e, e]) o s = none
  | [], o, s => by
    show epsApart i [e, e] o s = none
    unfold epsApart
    split
    · rfl
    · unfold epsApart
      rw [if_pos (by simp)]
  | x :: es, o, s => by
    rw [List.cons_append]
    unfold epsApart
    split
    · rfl
    · exact eps_twice i e es _ _
theorem alts_none (i : Nat) : ∀ (l : List Alt) (a : Alt) (o : Int → Option Nat), a ∈ l → (∀ o s, epsApart i a.eps o s = none) → altsApart i l o = none
  | [], a, o, h, _ => by cases h
  | b :: l, a, o, h, ha => by
    unfold altsApart
    rcases List.mem_cons.1 h with rfl | h
    · rw [ha]; rfl
    · cases hb : epsApart i b.eps o fun _ => false with
      | none => rfl
      | some o1 => exact alts_none i l a o1 h ha
theorem ifs_none : ∀ (I : List (List Alt)) (l : List Alt) (s : Nat) (o : Int → Option Nat), l ∈ I → (∀ i o, altsApart i l o = none) → ifsApart s I o = false
  | [], l, s, o, h, _ => by cases h
  | x :: I, l, s, o, h, hl => by
    unfold ifsApart
    rcases List.mem_cons.1 h with rfl | h
    · rw [hl]
    · cases hb : altsApart s x o with
      | none => rfl
      | some o1 => exact ifs_none I l (s + 1) o1 h hl
theorem bad_twice (h : CheckC ⟨D, I⟩) (hl : I[i]? = some l) (ha : l[j]? = some a) {e : EpD} {d' : IfD} (hs : sizeS ⟨D, I⟩ + 14 ≤ 4096) : checkS ⟨D', I.set i (l.set j { a with d := d', eps := a.eps ++ [e, e] })⟩ = 1 := by
  have hsz : altSize { a with d := d', eps := a.eps ++ [e, e] } = altSize a + 14 := by unfold altSize; simp; omega
  refine check_bad (NoLimit.set h hl ha (by rw [hsz]; omega)) fun h2 => ?_
  have h3 := h2.apart
  unfold apartS at h3
  rw [ifs_none _ (l.set j { a with d := d', eps := a.eps ++ [e, e] }) 0 _ (List.mem_of_getElem? (set_at_if hl)) (fun k o => alts_none k _ { a with d := d', eps := a.eps ++ [e, e] } o (List.mem_of_getElem? (set_at_alt ha)) (fun o s => eps_twice k e _ o s))] at h3
  cases h3
theorem eps_owner (i : Nat) : ∀ (es : List EpD) (o o' : Int → Option Nat) (s : Int → Bool), epsApart i es o s = some o' → (∀ z k, o z = some k → o' z = some k) ∧ ∀ e ∈ es, o' (addrS e) = some i
  | [], o, o', s, h => by
    have : o = o' := by unfold epsApart at h; injection h
    subst this
    exact ⟨fun _ _ h => h, fun e he => by cases he⟩
  | x :: es, o, o', s, h => by
    unfold epsApart at h
    split at h
    · cases h
    · rename_i hn
      have hn' : other o i (addrS x) = false := by
        cases ho : other o i (addrS x) with
        | false => rfl
        | true => rw [ho] at hn; simp at hn
      obtain ⟨h1, h2⟩ := eps_owner i es _ _ _ h
      refine ⟨fun z k hz => h1 z k ?_, fun e he => ?_⟩
      · by_cases hx : z = addrS x
        · subst hx
          unfold other at hn'
          rw [hz] at hn'
          have : k = i := by simpa using hn'
          simp [this]
        · simp [hx, hz]
      · rcases List.mem_cons.1 he with rfl | he
        · exact h1 _ _ (by simp)
        · exact h2 e he
theorem alts_owner (i : Nat) : ∀ (l : List Alt) (o o' : Int → Option Nat), altsApart i l o = some o' → (∀ z k, o z = some k → o' z = some k) ∧ ∀ a ∈ l, ∀ e ∈ a.eps, o' (addrS e) = some i
  | [], o, o', h => by
    have : o = o' := by unfold altsApart at h; injection h
    subst this
    exact ⟨fun _ _ h => h, fun a ha => by cases ha⟩
  | x :: l, o, o', h => by
    unfold altsApart at h
    cases he : epsApart i x.eps o fun _ => false with
    | none => rw [he] at h; cases h
    | some o1 =>
      rw [he] at h
      obtain ⟨h1, h2⟩ := eps_owner i _ _ _ _ he
      obtain ⟨h3, h4⟩ := alts_owner i l o1 o' h
      refine ⟨fun z k hz => h3 z k (h1 z k hz), fun a ha e hea => ?_⟩
      rcases List.mem_cons.1 ha with rfl | ha
      · exact h3 _ _ (h2 e hea)
      · exact h4 a ha e hea
theorem ifs_both {e : EpD} {b : Alt} (hb : b.eps = [e]) : ∀ (I : List (List Alt)) (s : Nat) (o : Int → Option Nat), ((∃ k, o (addrS e) = some k ∧ k < s) ∨ ∃ l ∈ I, ∃ a ∈ l, e ∈ a.eps) → ifsApart s (I ++ [[b]]) o = false
  | [], s, o, h => by
    rcases h with ⟨k, hk, hks⟩ | ⟨l, hl, _⟩
    · show ifsApart s [[b]] o = false
      unfold ifsApart altsApart
      rw [hb]
      unfold epsApart
      rw [if_pos (by unfold other; rw [hk]; simp; omega)]
      rfl
    · cases hl
  | x :: I, s, o, h => by
    rw [List.cons_append]
    unfold ifsApart
    cases hx : altsApart s x o with
    | none => rfl
    | some o1 =>
      obtain ⟨h1, h2⟩ := alts_owner s x o o1 hx
      refine ifs_both hb I (s + 1) o1 ?_
      rcases h with ⟨k, hk, hks⟩ | ⟨l, hl, a, ha, he⟩
      · exact .inl ⟨k, h1 _ _ hk, by omega⟩
      · rcases List.mem_cons.1 hl with rfl | hl
        · exact .inl ⟨s, h2 a ha e he, by omega⟩
        · exact .inr ⟨l, hl, a, ha, he⟩
theorem bad_both (h : CheckC ⟨D, I⟩) (hl : I[i]? = some l) (ha : l[j]? = some a) {e : EpD} {b : Alt} {d' : IfD} (hb : b.eps = [e]) (hx : b.extra = []) (hn : I.length < 16) (hs : sizeS ⟨D, I⟩ + 23 ≤ 4096) :
    checkS ⟨D', I.set i (l.set j { a with d := d', eps := a.eps ++ [e] }) ++ [[b]]⟩ = 1 := by
  have hsz : altSize { a with d := d', eps := a.eps ++ [e] } = altSize a + 7 := by unfold altSize; simp; omega
  have hn1 := NoLimit.set (D' := D') h hl ha (a' := { a with d := d', eps := a.eps ++ [e] }) (by rw [hsz]; omega)
  have hs1 := size_at (D := D) (D' := D') (a' := { a with d := d', eps := a.eps ++ [e] }) hl ha
  have hbz : altSize b = 16 := by unfold altSize; rw [hb, hx]; rfl
  have hs2 : sizeS ⟨D', I.set i (l.set j { a with d := d', eps := a.eps ++ [e] }) ++ [[b]]⟩ = sizeS ⟨D', I.set i (l.set j { a with d := d', eps := a.eps ++ [e] })⟩ + 16 := by
    rw [sizeS_eq, sizeS_eq]
    unfold sumC sumIf
    simp only [List.map_append, List.sum_append, List.map_cons, List.map_nil, List.sum_cons, List.sum_nil, hbz]
    omega
  refine check_bad ⟨by simp; omega, by rw [hs2]; rw [hsz] at hs1; omega, fun x hx => ?_⟩ fun h2 => ?_
  · rcases List.mem_append.1 hx with hx | hx
    · exact hn1.each x hx
    · have : x = [b] := by simpa using hx
      subst this
      simp
  · have h3 := h2.apart
    unfold apartS at h3
    rw [ifs_both hb _ 0 _ (.inr ⟨_, List.mem_of_getElem? (set_at_if hl), _, List.mem_of_getElem? (set_at_alt ha), by simp⟩)] at h3
    cases h3
theorem bad_empty (h : CheckC ⟨D, I⟩) (hn : I.length < 16) : checkS ⟨D', I ++ [[]]⟩ = 1 := by
  refine check_bad ⟨by simp; omega, ?_, fun x hx => ?_⟩ fun h2 => ?_
  · have h1 := h.size
    rw [sizeS_eq] at h1 ⊢
    unfold sumC at h1 ⊢
    simpa [sumIf] using h1
  · rcases List.mem_append.1 hx with hx | hx
    · exact (h.each x hx).1
    · have : x = [] := by simpa using hx
      subst this
      simp
  · exact (h2.each [] (by simp)).2 rfl
/- too much -/
theorem lim_alts (hl : l ∈ I) (h : 16 < l.length) : checkS ⟨D', I⟩ = 3 := check_lim (by
  unfold limitS
  simp only [Bool.or_eq_true, List.any_eq_true, decide_eq_true_eq]
  exact .inr ⟨l, hl, h⟩)
theorem lim_size (h : 4096 < sizeS ⟨D', I⟩) : checkS ⟨D', I⟩ = 3 := check_lim (by
  unfold limitS
  simp only [Bool.or_eq_true, decide_eq_true_eq]
  exact .inl (.inr h))
end
end Go.Proofs.YtjgncofhobhjdaaDoor
/- The law Fill: what Fill returns depends on the rest of a configuration alone: its numbers, counts and total may be wrong. No condition but those named; nothing of the program. -/
namespace Go.Proofs.YtjgncofhobhjdaaDoor
open Go.RowKit

/-- a setting without its numbers and its count -/
def coreA (a : Alt) : Alt := { a with d := { a.d with num := 0, alt := 0, eps := 0 } }
def coreL (l : List Alt) : List Alt := l.map coreA
def coreI (I : List (List Alt)) : List (List Alt) := I.map coreL
theorem fillAlt_core {i j : Nat} {a b : Alt} (h : coreA a = coreA b) : fillAlt i j a = fillAlt i j b := by
  obtain ⟨⟨a1, a2, a3, a4, a5, a6, a7⟩, ax, ae⟩ := a
  obtain ⟨⟨b1, b2, b3, b4, b5, b6, b7⟩, bx, be⟩ := b
  unfold coreA at h
  simp only [Alt.mk.injEq, IfD.mk.injEq] at h
  obtain ⟨⟨_, _, _, rfl, rfl, rfl, rfl⟩, rfl, rfl⟩ := h
  rfl
theorem mapIdx_ext {α β γ : Type} {f : Nat → α → γ} {c : α → β} (h : ∀ i a b, c a = c b → f i a = f i b) : ∀ {l m : List α}, l.map c = m.map c → l.mapIdx f = m.mapIdx f
  | [], [], _ => rfl
  | [], _ :: _, e => by simp at e
  | _ :: _, [], e => by simp at e
  | a :: l, b :: m, e => by
    simp only [List.map_cons, List.cons.injEq] at e
    rw [List.mapIdx_cons, List.mapIdx_cons, h 0 a b e.1]
    congr 1
    exact mapIdx_ext (fun i x y hxy => h (i + 1) x y hxy) e.2
theorem fillIfs_core {I J : List (List Alt)} (h : coreI I = coreI J) : fillIfs I = fillIfs J := by
  show (I.mapIdx fun i x => x.mapIdx fun j a => fillAlt i j a) = J.mapIdx fun i x => x.mapIdx fun j a => fillAlt i j a
  exact mapIdx_ext (c := coreL) (f := fun i x => x.mapIdx fun j a => fillAlt i j a) (fun i l m e => mapIdx_ext (c := coreA) (f := fun j a => fillAlt i j a) (fun j a b e2 => fillAlt_core e2) e) h
theorem altSize_core (a : Alt) : altSize (coreA a) = altSize a := rfl
theorem sumC_core {I J : List (List Alt)} (h : coreI I = coreI J) : sumC I = sumC J := by
  have h1 : ∀ K : List (List Alt), sumC K = sumC (coreI K) := fun K => by
    unfold sumC coreI
    rw [List.map_map]
    congr 1
    refine List.map_congr_left fun l _ => ?_
    show sumIf l = sumIf (coreL l)
    unfold sumIf coreL
    rw [List.map_map]
    rfl
  rw [h1, h, ← h1]
theorem len_core {I J : List (List Alt)} (h : coreI I = coreI J) : I.length = J.length := by
  have := congrArg List.length h
  simpa [coreI] using this
theorem core_at {I J : List (List Alt)} (h : coreI I = coreI J) (i : Nat) : (I[i]?).map coreL = (J[i]?).map coreL := by
  have := congrArg (fun l => l[i]?) h
  simpa [coreI] using this
theorem core_len_at {I J : List (List Alt)} (h : coreI I = coreI J) {i : Nat} {l m : List Alt} (hl : I[i]? = some l) (hm : J[i]? = some m) : l.length = m.length := by
  have h1 := core_at h i
  rw [hl, hm] at h1
  have h2 : coreL l = coreL m := by simpa using h1
  have := congrArg List.length h2
  simpa [coreL] using this
/-- three numbers of a setting written over -/
theorem core_set {I : List (List Alt)} {i j : Nat} {l : List Alt} {a b : Alt} (hl : I[i]? = some l) (ha : l[j]? = some a) (hb : coreA b = coreA a) : coreI (I.set i (l.set j b)) = coreI I := by
  have h1 : coreL (l.set j b) = coreL l := by
    unfold coreL
    rw [List.map_set, hb]
    obtain ⟨h2, rfl⟩ := List.getElem?_eq_some_iff.1 ha
    rw [show coreA l[j] = (l.map coreA)[j]'(by simpa using h2) by simp, List.set_getElem_self]
  unfold coreI
  rw [List.map_set, h1]
  obtain ⟨h2, rfl⟩ := List.getElem?_eq_some_iff.1 hl
  rw [show coreL I[i] = (I.map coreL)[i]'(by simpa using h2) by simp, List.set_getElem_self]
section
variable {D : CfgD} {I : List (List Alt)} {n t c : Int}
/-- the number of a configuration changed to another valid one -/
theorem check_number (h : CheckC ⟨D, I⟩) (hn : 1 ≤ n) : CheckC ⟨{ D with number := n }, I⟩ := by
  obtain ⟨h1, h2, h3, h4, h5, h6, h7, h8⟩ := h
  refine ⟨h1, h2, h3, ⟨?_, h4.alts⟩, h5, h6, h7, h8⟩
  have h9 := h4.d
  unfold okCfg at h9 ⊢
  simp only [Bool.and_eq_true, decide_eq_true_eq] at h9 ⊢
  exact ⟨⟨h9.1.1, hn⟩, h9.2⟩
theorem checkC_iff {C : Cfg} (h : CheckC C) : checkS C = 0 := by
  unfold checkS
  rw [if_neg (by rw [h.noLimit.no]; decide), if_pos]
  have h1 := h.valid
  unfold validS countedS
  simp only [Bool.and_eq_true, decide_eq_true_eq, List.all_eq_true, Bool.not_eq_true', List.any_eq_false]
  exact ⟨⟨⟨⟨h1.d, h1.alts⟩, ⟨h.ifs, h.total⟩, h.counted⟩, h.apart⟩, fun l hl => by have := (h.each l hl).2; simpa using this⟩
/-- what Fill returns for a configuration whose numbers are wrong -/
theorem fill_core (h : CheckC ⟨D, I⟩) {J : List (List Alt)} (hJ : coreI J = coreI I) (hm : (if n = 0 then 1 else n) = D.number) : fillS ⟨{ D with total := t, ifs := c, number := n }, J⟩ = ⟨D, I⟩ := by
  have h1 := fill_same h
  unfold fillS at h1 ⊢
  have hs : sizeS ⟨{ D with total := t, ifs := c, number := n }, J⟩ = sizeS ⟨D, I⟩ := by
    rw [sizeS_eq, sizeS_eq]
    show 9 + sumC J = 9 + sumC I
    rw [sumC_core hJ]
  rw [hs]
  show (⟨{ D with total := _, ifs := _, number := if n = 0 then 1 else n }, fillIfs J⟩ : Cfg) = _
  rw [hm, fillIfs_core hJ, len_core hJ]
  have hn1 : (if D.number = 0 then 1 else D.number) = D.number := by
    have h9 := h.valid.d
    unfold okCfg at h9
    simp only [Bool.and_eq_true, decide_eq_true_eq] at h9
    rw [if_neg (by omega)]
  simp only [hn1] at h1
  exact h1
end
end Go.Proofs.YtjgncofhobhjdaaDoor
