
/- Detach. The registry reads as data. -/
import Derived.Test.YtgkhenplbljbbaaChecked
import Derived.Deep.RegionHeld3
import Derived.Deep.DrawnRows
import Derived.Deep.DeepCutAuto
import Derived.Deep.LoopGhost
import Derived.Outline
import Derived.Handy
import Derived.OwnWalk
import Derived.Test.YtgkhenplbljbbaaHc
import Derived.Test.YtgkhenplbljbbaaBu
set_option linter.unusedVariables false
set_option linter.unusedSimpArgs false
set_option linter.unusedSectionVars false
namespace Go.Proofs.Ytgkhenplbljbbaa
open Go.RowKit Go.Maps Go.WideShapes
attribute [local go_sem ↓] Go.wp_at_zero Go.wp_at_succ

def upd (S : St) (a : Nat) (s : Option (Int × List Int)) : St := fun n => if n = a then s else S n
theorem sameKey8 {n a : Nat} (hn : n < 256) (ha : a < 256) : (Lit.int .u8 (n : Int)).sameKey (.int .u8 (a : Int)) = decide (n = a) := by
  by_cases h : n = a
  · subst h
    rw [WideAt.sameKey_self ((int_keyed Try.underlying5).key (key8 hn))]; simp
  · rw [sameKey_ne (fun e => by injection e with _ e; omega)]; simp [h]
/-- a registry behind a change of its map -/
theorem Reg.after {w w' : World} {X : Nat → Prop} {G m nl bd : Nat} {l : List Drv} {K : Nat} {S : St} {f : Lit → Option Value} (hG : w.heap[G]? = some (.cells #[.slice (some ⟨bd, 0, none⟩) nl nl, .map (some m)] 89 (0, 0)))
    (hD : Sl drvT w (inX w X) (some ⟨bd, 0, none⟩) nl l) (hg : w.grownBy w' (some m)) (hm : ¬ X m) (hGX : X G) (hM : MapIs Try.prog 5 w' m K f) (hL : ∀ n : Nat, n < 256 → Look w X (f (.int .u8 (n : Int))) (S n)) : Reg w' X G m nl l K S :=
  ⟨bd, f, (hg.block G (heap_lt hG) (fun e => hm (by injection e with e; rw [← e]; exact hGX))).trans hG, inX_grown hD hg (fun b e => by injection e with e; rw [e]; exact hm), hM, fun n hn => (hL n hn).grown hg (fun b e => by injection e with e; rw [e]; exact hm)⟩
theorem look_del {w : World} {X : Nat → Prop} {f : Lit → Option Value} {S : St} (h : ∀ n : Nat, n < 256 → Look w X (f (.int .u8 (n : Int))) (S n)) {a : Nat} (ha : a < 256) : ∀ n : Nat, n < 256 → Look w X (delF f (.int .u8 (a : Int)) (.int .u8 (n : Int))) (upd S a none n) := by
  intro n hn
  unfold delF upd
  rw [sameKey8 hn ha]
  by_cases hna : n = a
  · simp [hna, Look]
  · simp only [hna, decide_false, Bool.false_eq_true, if_false]; exact h n hn
theorem look_put {w w' : World} {X : Nat → Prop} {f : Lit → Option Value} {S : St} (h : ∀ n : Nat, n < 256 → Look w X (f (.int .u8 (n : Int))) (S n)) (hk : Kept w w') {a : Nat} (ha : a < 256) {v : Value} {s : Option (Int × List Int)} (hv : Look w' X (some v) s) : ∀ n : Nat, n < 256 → Look w' X (putF f (.int .u8 (a : Int)) v (.int .u8 (n : Int))) (upd S a s n) := by
  intro n hn
  unfold putF upd
  rw [sameKey8 hn ha]
  by_cases hna : n = a
  · simp only [hna, decide_true, if_true]; exact hv
  · simp only [hna, decide_false, Bool.false_eq_true, if_false]; exact (h n hn).grown (grown_of_kept hk none) (fun b e => by cases e)
set_option maxRecDepth 100000 in
set_option maxHeartbeats 4000000 in
theorem detach_no {w : World} {X : Nat → Prop} {G m nl : Nat} {l : List Drv} {K : Nat} {S : St} (hR : Reg w X G m nl l K S) (a : Nat) (ha : a < 256) (hs : S a = none) :
    Calls Try.prog 23 #[.pointer (some ⟨G, 0, none⟩), .int .u8 (a : Int)] w fun e w' => e = .returned (.tuple #[.slice none 0 0, .int .i64 7]) ∧ Kept w w' := by
  obtain ⟨bd, f, hG, hD, hM, hL⟩ := hR
  have hLa := hL a ha
  rw [hs] at hLa
  have hf : f (.int .u8 (a : Int)) = none := hLa
  have c1 := cell_heap hG (o := 1) rfl
  have hGl := heap_lt hG
  go_enter Try.func23, Try.ntmps23
  go_wp2_with (first
    | (go_at_call 39; refine (some_any G m _ _ hG).mono ?_; rintro e w1 ⟨rfl, rfl⟩)
    | (at_lookup; refine wpList_look_any _ rfl _ _ 87 true rfl 5 63 (int_keyed Try.underlying5) Try.underlying87 (zero63 _) m K f (by rfl) hM _ _ rfl (key8 ha) ?_; rw [hf]; simp only [if_true, Option.getD_none, Option.isSome_none]))
  go_ret2
  exact ⟨rfl, by go_grown⟩
set_option maxRecDepth 100000 in
set_option maxHeartbeats 4000000 in
theorem detach_yes {w : World} {X : Nat → Prop} {G m nl : Nat} {l : List Drv} {K : Nat} {S : St} (hR : Reg w X G m nl l K S) (hnl : nl ≤ maxLen) (hm : ¬ X m) (hGX : X G) (a : Nat) (ha : a < 256) {q : Int} {L : List Int} (hs : S a = some (q, L)) (hg : GoodC l (S a)) :
    Calls Try.prog 23 #[.pointer (some ⟨G, 0, none⟩), .int .u8 (a : Int)] w fun e w' => ∃ A, e = .returned (.tuple #[.slice A (bindS l a (S a)).length (bindS l a (S a)).length, .int .i64 0]) ∧
      Sl bdT w' (fun g => w.heap.size ≤ g ∧ g < w'.heap.size) A (bindS l a (S a)).length (bindS l a (S a)) ∧ w.grownBy w' (some m) ∧ Reg w' X G m nl l K (upd S a none) := by
  have hR0 := hide hR
  obtain ⟨bd, f, hG, hD, hM, hL⟩ := hR
  have hLa := hL a ha
  rw [hs] at hLa
  obtain ⟨A, hf, hLs⟩ := hLa
  clear hs
  have HL := hide hL
  have HD := hide hD
  have HG := hide hG
  have c1 := cell_heap hG (o := 1) rfl
  have hGl := heap_lt hG
  have hml := hM.lt
  go_enter Try.func23, Try.ntmps23
  go_upto_region 6 with (first
    | (go_at_call 39; refine (some_any G m _ _ hG).mono ?_; rintro e w1 ⟨rfl, rfl⟩)
    | (at_lookup; refine wpList_look_any _ rfl _ _ 87 true rfl 5 63 (int_keyed Try.underlying5) Try.underlying87 (zero63 _) m K f (by rfl) hM _ _ rfl (key8 ha) ?_; rw [hf]; simp only [if_true, Option.getD_some, Option.isSome_some]))
  refine wp_at (fun W => Kept w W) (by go_grown) (fun W hkW => ?_)
  have hRW := hR0.out.kept hkW
  go_upto_region 7 with (go_at_call 26; refine (bound_any hRW hnl a ha hg).mono ?_; rintro e w2 ⟨A2, rfl, hsl2, hk2⟩)
  have hkw2 : Kept w w2 := hkW.trans' hk2
  have c1' : w2.cell? ⟨G, 1, none⟩ = some (.map (some m)) := (hkw2.cell (p := ⟨G, 1, none⟩) hGl).trans c1
  have hM2 := hide (hM.keep hkw2)
  clear hRW hG hD hM hL hLs c1 hf
  go_wp2_with (at_delete; refine wpList_delete_any _ rfl _ _ 87 5 rfl 63 (int_keyed Try.underlying5) Try.underlying87 m K f (by rfl) hM2.out _ _ rfl (key8 ha) ?_; intro w3 hM3 hg3)
  go_ret2
  have hmw : m < w2.heap.size := Nat.lt_of_lt_of_le hml hkw2.size
  refine ⟨A2, rfl, hsl2.grown hg3 (fun b hb => ⟨hb.2, fun e => by injection e with e; have h1 := hb.1; have h2 := hkW.size; omega⟩) (fun b hb => ⟨by have h1 := hb.1; have h2 := hkW.size; omega, by have := hg3.size; omega⟩), grown_comp (grown_any hkw2) hg3, ?_⟩
  have hg4 : w.grownBy w3 (some m) := grown_comp (grown_any hkw2) hg3
  exact Reg.after HG.out HD.out hg4 hm hGX hM3 (look_del HL.out ha)
end Go.Proofs.Ytgkhenplbljbbaa
