/- The law ReportsParse. Printed by gen_kd.py. -/
import Derived.Test.YtegdigfcgeoboaaChecked
import Derived.Deep.RegionHeld3
import Derived.Deep.DrawnRows
import Derived.Deep.DeepCutAuto
import Derived.Deep.LoopGhost
import Derived.Outline
import Derived.Handy
import Derived.OwnWalk
import Derived.BigQuiet
import Derived.Test.YtegdigfcgeoboaaN24
import Derived.Test.YtegdigfcgeoboaaN25
import Derived.Test.YtegdigfcgeoboaaKcK
set_option linter.unusedVariables false
set_option linter.unusedSimpArgs false
set_option linter.unusedSectionVars false
namespace Go.Proofs.Ytegdigfcgeoboaa
open Go.RowKit Go.Maps
attribute [local go_sem ↓] Go.wp_at_zero Go.wp_at_succ

/-- the descriptor's bytes, written and parsed -/
theorem join_parse {L : List It} (hok : ∀ x ∈ L, x.wide = true ∧ x.ok) (hl : L.length ≤ 300) : joinE L = 0 ∧ parseE (joinB L) = (parseS L).1 ∧ parseM (joinB L) = (parseS L).2 ∧ (joinB L).length ≤ 1500 := by
  have hj := joinB_len L hok
  have hij := items_join L hok
  have h1 : joinE L = 0 := by
    unfold joinE
    rw [if_pos (List.all_eq_true.2 fun x hx => (hok x hx).1), if_neg (by omega)]
  have h2 : itemsE (joinB L) = 0 := by
    unfold itemsE goodB
    rw [hij, if_neg (by omega), if_pos]
    rw [List.all_eq_true]
    intro x hx
    have := (wide_iff (hok x hx).1 (hok x hx).2).2.2.2.2
    rw [decide_eq_true_eq]; omega
  refine ⟨h1, ?_, ?_, by omega⟩
  · unfold parseE
    rw [if_neg (by rw [h2]; simp), hij]
  · unfold parseM
    rw [hij]
theorem parse_fine {l : List It} (hw : ∀ x ∈ l, x.wide = true ∧ x.ok) (h0 : (parseS l).1 = 0) : SizesOk (parseS l).2.fields ∧ PosOk (parseS l).2.fields ∧ (parseS l).2.colls.length ≤ 64 := by
  have h1 : (runS l rs0).1 = 0 := by
    refine Classical.byContradiction fun h => ?_
    unfold parseS at h0
    rw [if_pos h] at h0
    exact h h0
  have h2 : (parseS l).2 = (runS l rs0).2 := by unfold parseS; rw [if_neg (by rw [h1]; simp)]
  have hf := run_fine l rs0 fine0 hw h1
  rw [h2]
  refine ⟨⟨hf.fields.1, fun f hf2 => ?_⟩, run_pos l rs0 (fun i f h => by simp [rs0] at h), hf.colls.1⟩
  obtain ⟨a, b, c, d, _⟩ := hf.fields.2 f hf2
  exact ⟨a, b, c, d⟩
theorem joinE_wide {l : List It} (h : joinE l = 0) : l.all It.wide = true := by
  unfold joinE at h
  refine Classical.byContradiction fun h2 => ?_
  rw [if_neg h2] at h
  cases h
set_option maxRecDepth 100000 in
set_option maxHeartbeats 8000000 in
theorem parse_law (A : Option Addr) (n c : Nat) (l : List It) (w : World) (hnc : n ≤ c) (hc : c ≤ maxLen) (hl : Sl itT w (low w.heap.size) A n l) :
    Calls Try.prog 4 #[.slice A n c] w fun e w' => e = .returned (.bool true) ∧ Kept w w' := by
  have hln := hl.1
  go_enter Try.func4, Try.ntmps4
  by_cases h60 : 60 < n
  · have hd : decide (60 < (n : Int)) = true := decide_eq_true (by omega)
    go_wp2_with (go_at_call 8; refine (lives_any _).mono ?_; rintro e w1 ⟨rfl, hk⟩)
    go_ret
    exact ⟨rfl, hk⟩
  have hd : decide (60 < (n : Int)) = false := decide_eq_false (by omega)
  by_cases hj : joinE l = 0
  · have hits := hl.its
    have hw : ∀ x ∈ l, x.wide = true ∧ x.ok := fun x hx => ⟨List.all_eq_true.1 (joinE_wide hj) x hx, hits x hx⟩
    obtain ⟨_, hpE, hpM, hlen⟩ := join_parse hw (by omega)
    have hjo : Calls Try.prog 11 #[.slice A n c] w fun e w'' => ∃ A' L, e = .returned (.tuple #[.slice A' L L, .int .i64 0]) ∧ Sl u8T w'' (low w''.heap.size) A' L (joinB l) ∧ L ≤ 1500 ∧ Kept w w'' :=
      (join_any A n c l w (by omega) hl).mono fun e w'' h => by
        rcases h with ⟨h, _⟩ | ⟨_, A', h1, h2, h3⟩
        · exact absurd hj h
        · exact ⟨A', _, h1, h2.keep (fun g hg => hg.2) (fun _ _ _ => rfl), hlen, h3⟩
    have hmod : ∀ w', Kept w w' → Calls Try.prog 13 #[.slice A n c] w' (ModelPost w' (parseS l).1 (parseS l).2) := fun w' hk => model_any A n c l w' hnc hc (hl.kept hk) hw (by omega)
    have hpar : ∀ w' (A' : Option Addr) (L : Nat), L ≤ 1500 → Sl u8T w' (low w'.heap.size) A' L (joinB l) → Calls Try.prog 14 #[.slice A' L L] w' (ParsePost w' (parseS l).1 (parseS l).2) := fun w' A' L hL hs => by
      have := parse_any A' L L (joinB l) w' (Nat.le_refl _) (by unfold maxLen; omega) hs
      rw [hpE, hpM] at this
      exact this
    have hpf := parse_fine hw
    clear hits hw hpE hpM hlen hl hj
    generalize joinB l = jb at *
    generalize parseS l = P at *
    obtain ⟨E, s⟩ := P
    have Hmod := hide hmod
    have Hpar := hide hpar
    have Hpf := hide hpf
    clear hmod hpar hpf
    go_upto_region 4 with (go_at_call 11; refine hjo.mono ?_; rintro e w1 ⟨A', L, rfl, hs1, hL, hk1⟩)
    have Hs1 := hide hs1
    clear hs1 hjo
    by_cases hE : E = 0
    · subst hE
      have hmo : Calls Try.prog 13 #[.slice A n c] w1 fun e w' => ∃ Af nf Ac nc, e = .returned (.tuple #[.agg #[.slice Af s.fields.length nf, .slice Ac s.colls.length nc, .bool s.numbered], .int .i64 0]) ∧ Sl fdM w' (low w'.heap.size) Af s.fields.length s.fields ∧ Sl coT w' (low w'.heap.size) Ac s.colls.length s.colls ∧ Kept w1 w' :=
        (Hmod.out w1 hk1).mono fun e w' ⟨hk, h⟩ => by
          rcases h with ⟨h, _⟩ | ⟨_, Af, nf, Ac, nc, h1, h2, h3⟩
          · exact absurd rfl h
          · exact ⟨Af, nf, Ac, nc, h1, h2, h3, hk⟩
      obtain ⟨hsz, hpo, hcl⟩ := Hpf.out rfl
      have hfl := hsz.1
      have Hsz := hide hsz
      have Hpo := hide hpo
      clear hsz hpo
      go_upto_region 7 with (go_at_call 13; refine hmo.mono ?_; rintro e w2 ⟨Af, nf, Ac, nc, rfl, hF1, hC1, hk2⟩)
      refine wp_at (fun W => W.heap[w2.heap.size]? = some (.cells #[.slice Af s.fields.length nf, .slice Ac s.colls.length nc, .bool s.numbered] 40 (0, 0)) ∧ Kept w2 W) ⟨heap_at _ rfl, by go_grown⟩ (fun W hW => ?_)
      obtain ⟨hB5, hkW⟩ := hW
      have HF1 := hide hF1
      have HC1 := hide hC1
      have HB5 := hide hB5
      clear hF1 hC1 hB5 hmo
      have hpa : Calls Try.prog 14 #[.slice A' L L] W fun e w' => ∃ Ag Ad, e = .returned (.tuple #[.agg #[.slice Ag s.fields.length s.fields.length, .slice Ad s.colls.length s.colls.length, .bool s.numbered], .int .i64 0]) ∧ Sl fdT w' (low w'.heap.size) Ag s.fields.length s.fields ∧ Sl coT w' (low w'.heap.size) Ad s.colls.length s.colls ∧ Kept W w' :=
        (Hpar.out W A' L hL (Hs1.out.kept (hk2.trans' hkW))).mono fun e w' ⟨hk, h⟩ => by
          rcases h with ⟨h, _⟩ | ⟨_, Ag, Ad, h1, h2, h3⟩
          · exact absurd rfl h
          · exact ⟨Ag, Ad, h1, h2, h3, hk⟩
      go_upto_region 8 with (go_at_call 14; refine hpa.mono ?_; rintro e w3 ⟨Ag, Ad, rfl, hF2, hC2, hk3⟩)
      refine wp_at (fun V => V.heap[w3.heap.size]? = some (.cells #[.slice Ag s.fields.length s.fields.length, .slice Ad s.colls.length s.colls.length, .bool s.numbered] 40 (0, 0)) ∧ Kept w3 V) ⟨heap_at _ rfl, by go_grown⟩ (fun V hV => ?_)
      obtain ⟨hB7, hkV⟩ := hV
      have hB5' := heap_kept (hk3.trans' hkV) HB5.out
      have a0 : V.cell? ⟨w2.heap.size, 0, none⟩ = some (.slice Af s.fields.length nf) := cell_heap hB5' (o := 0) rfl
      have a1 : V.cell? ⟨w2.heap.size, 1, none⟩ = some (.slice Ac s.colls.length nc) := cell_heap hB5' (o := 1) rfl
      have a2 : V.cell? ⟨w2.heap.size, 2, none⟩ = some (.bool s.numbered) := cell_heap hB5' (o := 2) rfl
      have al := heap_lt hB5'
      have b0 : V.cell? ⟨w3.heap.size, 0, none⟩ = some (.slice Ag s.fields.length s.fields.length) := cell_heap hB7 (o := 0) rfl
      have b1 : V.cell? ⟨w3.heap.size, 1, none⟩ = some (.slice Ad s.colls.length s.colls.length) := cell_heap hB7 (o := 1) rfl
      have b2 : V.cell? ⟨w3.heap.size, 2, none⟩ = some (.bool s.numbered) := cell_heap hB7 (o := 2) rfl
      have bl := heap_lt hB7
      have hF2' := hF2.kept hkV
      have hC2' := hC2.kept hkV
      have hk25 := (hkW.trans' hk3).trans' hkV
      have hun := unlike_eq Ag Af Ad Ac s.fields.length s.fields.length nf s.colls.length s.colls.length nc s.numbered s.fields s.colls V hfl hcl (sl_fdM hF2') (HF1.out.kept hk25) hC2' (HC1.out.kept hk25)
      have hap : ∀ w', Kept V w' → Calls Try.prog 16 #[.agg #[.slice Ag s.fields.length s.fields.length, .slice Ad s.colls.length s.colls.length, .bool s.numbered]] w' fun e w'' => e = .returned (.bool true) ∧ Kept w' w'' := fun w' hk => apart_any Ag Ad s.fields.length s.fields.length s.colls.length s.colls.length s.numbered s.fields w' Hsz.out Hpo.out (hF2'.kept hk)
      have HB7 := hide hB7
      have Hap := hide hap
      clear hF2 hC2 hF2' hC2' hpa hB7 hB5' hap
      go_wp2_with (first
        | (go_at_call 15; refine hun.mono ?_; rintro e w4 ⟨rfl, hk4⟩; obtain ⟨hcq, hfq⟩ := bcell hk4)
        | (go_at_call 16; refine (Hap.out _ hk4).mono ?_; rintro e w5 ⟨rfl, hk5⟩)
        | (go_at_call 8; refine (lives_any _).mono ?_; rintro e w6 ⟨rfl, hk6⟩))
      go_ret
      exact ⟨rfl, ((((hk1.trans' hk2).trans' hk25).trans' hk4).trans' hk5).trans' hk6⟩
    · have hmo : Calls Try.prog 13 #[.slice A n c] w1 fun e w' => e = .returned (.tuple #[.agg #[.slice none 0 0, .slice none 0 0, .bool false], .int .i64 E]) ∧ Kept w1 w' :=
        (Hmod.out w1 hk1).mono fun e w' ⟨hk, h⟩ => by
          rcases h with ⟨_, h⟩ | ⟨h, _⟩
          · exact ⟨h, hk⟩
          · exact absurd h hE
      go_upto_region 7 with (go_at_call 13; refine hmo.mono ?_; rintro e w2 ⟨rfl, hk2⟩)
      refine wp_at (fun W => W.heap[w2.heap.size]? = some (.cells #[.slice none 0 0, .slice none 0 0, .bool false] 40 (0, 0)) ∧ Kept w2 W) ⟨heap_at _ rfl, by go_grown⟩ (fun W hW => ?_)
      obtain ⟨hB5, hkW⟩ := hW
      have HB5 := hide hB5
      clear hB5 hmo
      have hpa : Calls Try.prog 14 #[.slice A' L L] W fun e w' => e = .returned (.tuple #[.agg #[.slice none 0 0, .slice none 0 0, .bool false], .int .i64 E]) ∧ Kept W w' :=
        (Hpar.out W A' L hL (Hs1.out.kept (hk2.trans' hkW))).mono fun e w' ⟨hk, h⟩ => by
          rcases h with ⟨_, h⟩ | ⟨h, _⟩
          · exact ⟨h, hk⟩
          · exact absurd h hE
      go_upto_region 8 with (go_at_call 14; refine hpa.mono ?_; rintro e w3 ⟨rfl, hk3⟩)
      refine wp_at (fun V => V.heap[w3.heap.size]? = some (.cells #[.slice none 0 0, .slice none 0 0, .bool false] 40 (0, 0)) ∧ Kept w3 V) ⟨heap_at _ rfl, by go_grown⟩ (fun V hV => ?_)
      obtain ⟨hB7, hkV⟩ := hV
      have hB5' := heap_kept (hk3.trans' hkV) HB5.out
      have a0 : V.cell? ⟨w2.heap.size, 0, none⟩ = some (.slice none 0 0) := cell_heap hB5' (o := 0) rfl
      have a1 : V.cell? ⟨w2.heap.size, 1, none⟩ = some (.slice none 0 0) := cell_heap hB5' (o := 1) rfl
      have a2 : V.cell? ⟨w2.heap.size, 2, none⟩ = some (.bool false) := cell_heap hB5' (o := 2) rfl
      have al := heap_lt hB5'
      have b0 : V.cell? ⟨w3.heap.size, 0, none⟩ = some (.slice none 0 0) := cell_heap hB7 (o := 0) rfl
      have b1 : V.cell? ⟨w3.heap.size, 1, none⟩ = some (.slice none 0 0) := cell_heap hB7 (o := 1) rfl
      have b2 : V.cell? ⟨w3.heap.size, 2, none⟩ = some (.bool false) := cell_heap hB7 (o := 2) rfl
      have bl := heap_lt hB7
      have hk25 := (hkW.trans' hk3).trans' hkV
      have hun := unlike_eq none none none none 0 0 0 0 0 0 false [] [] V (by decide) (by decide) (Sl.nil _ _ _ _) (Sl.nil _ _ _ _) (Sl.nil _ _ _ _) (Sl.nil _ _ _ _)
      have hap : ∀ w', Calls Try.prog 16 #[.agg #[.slice none 0 0, .slice none 0 0, .bool false]] w' fun e w'' => e = .returned (.bool true) ∧ Kept w' w'' := fun w' => apart_any none none 0 0 0 0 false [] w' ⟨by simp, fun f hf => by cases hf⟩ (fun i f h => by simp at h) (Sl.nil _ _ _ _)
      have HB7 := hide hB7
      have Hap := hide hap
      clear hpa hB7 hB5' hap
      go_wp2_with (first
        | (go_at_call 15; refine hun.mono ?_; rintro e w4 ⟨rfl, hk4⟩; obtain ⟨hcq, hfq⟩ := bcell hk4)
        | (go_at_call 16; refine (Hap.out _).mono ?_; rintro e w5 ⟨rfl, hk5⟩)
        | (go_at_call 8; refine (lives_any _).mono ?_; rintro e w6 ⟨rfl, hk6⟩))
      go_ret
      exact ⟨rfl, ((((hk1.trans' hk2).trans' hk25).trans' hk4).trans' hk5).trans' hk6⟩
  · have hjo : Calls Try.prog 11 #[.slice A n c] w fun e w'' => e = .returned (.tuple #[.slice none 0 0, .int .i64 (joinE l)]) ∧ Kept w w'' :=
      (join_any A n c l w (by omega) hl).mono fun e w'' h => by
        rcases h with ⟨_, h1, h2⟩ | ⟨h, _⟩
        · exact ⟨h1, h2⟩
        · exact absurd h hj
    obtain ⟨E, hE⟩ : ∃ E, joinE l = E := ⟨_, rfl⟩
    rw [hE] at hj hjo
    have hj2 : (E == 0) = false := beq_false_of_ne hj
    have hj3 : decide (E = 0) = false := decide_eq_false hj
    clear hE
    go_wp2_with (first | (go_at_call 11; refine hjo.mono ?_; rintro e w1 ⟨rfl, hk⟩) | (go_at_call 8; refine (lives_any _).mono ?_; rintro e w2 ⟨rfl, hk2⟩))
    go_ret
    exact ⟨rfl, hk.trans' hk2⟩
end Go.Proofs.Ytegdigfcgeoboaa
