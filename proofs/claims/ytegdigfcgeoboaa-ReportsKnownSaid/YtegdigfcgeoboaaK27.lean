/- The law of the chapter on reports, part 27: Kb Za Zb. -/
import Derived.Test.YtegdigfcgeoboaaK26
set_option maxHeartbeats 16000000
set_option linter.unusedVariables false
set_option linter.unusedSimpArgs false
set_option linter.unusedSectionVars false
namespace Go.Proofs.Ytegdigfcgeoboaa
open Go.RowKit
attribute [local go_sem ↓] Go.wp_at_zero Go.wp_at_succ
set_option maxRecDepth 100000 in
theorem unlike_eq (A1 A2 C1 C2 : Option Addr) (n c1 c2 m d1 d2 : Nat) (nb : Bool) (l : List Fd) (cl : List Co) (w : World) (hn : n ≤ 256) (hm : m ≤ 64)
  (h1 : Sl fdM w (low w.heap.size) A1 n l) (h2 : Sl fdM w (low w.heap.size) A2 n l) (g1 : Sl coT w (low w.heap.size) C1 m cl) (g2 : Sl coT w (low w.heap.size) C2 m cl) :
  Calls Try.prog 15 #[.agg #[.slice A1 n c1, .slice C1 m d1, .bool nb], .agg #[.slice A2 n c2, .slice C2 m d2, .bool nb]] w fun e w' => e = .returned (.int .i64 0) ∧ Kept w w' := by
 go_enter Try.func15, Try.ntmps15
 go_upto_region 4 with (fail)
 refine wp_at (fun W => W.heap[w.heap.size]? = some (.cells #[.slice A1 n c1, .slice C1 m d1, .bool nb] 40 (0, 0)) ∧ W.heap[w.heap.size + 1]? = some (.cells #[.slice A2 n c2, .slice C2 m d2, .bool nb] 40 (0, 0)) ∧ Kept w W) ⟨heap_past (heap_at _ rfl), heap_at _ (by simp), by go_grown⟩ (fun W hW => ?_)
 obtain ⟨hB1, hB2, hkW⟩ := hW
 have HB1 := hide hB1
 have HB2 := hide hB2
 have HkW := hide hkW
 clear hB1 hB2 hkW
 go_wp2_with fail
 go_loopg [5] n (fun g s5 wr => ∃ i : Nat, i + g = n ∧ s5 = .int .i64 i ∧ Kept W wr)
 case atStart => exact ⟨0, by omega, rfl, Below.refl _ _⟩
 case round =>
  obtain ⟨i, hi, rfl, hk⟩ := hrel
  have Hi := hide hi
  have b1 := heap_kept hk HB1.out
  have b2 := heap_kept hk HB2.out
  have l1 := heap_lt b1
  have l2 := heap_lt b2
  have p0 : wr.cell? ⟨w.heap.size, 0, none⟩ = some (.slice A1 n c1) := cell_heap b1 (o := 0) rfl
  have q0 : wr.cell? ⟨w.heap.size + 1, 0, none⟩ = some (.slice A2 n c2) := cell_heap b2 (o := 0) rfl
  have p1 : wr.cell? ⟨w.heap.size, 1, none⟩ = some (.slice C1 m d1) := cell_heap b1 (o := 1) rfl
  have q1 : wr.cell? ⟨w.heap.size + 1, 1, none⟩ = some (.slice C2 m d2) := cell_heap b2 (o := 1) rfl
  clear hi b1 b2
  by_cases hlt : i < n
  ·obtain ⟨x, b, off, cs, hx, rfl, hbb, ⟨A, c, rfl, hu1, hu2, hs1⟩, hcs⟩ := (h1.kept (HkW.out.trans' hk)).at hlt
   obtain ⟨x', b', off', cs', hx', rfl, hbb', ⟨A', c', rfl, hu1', hu2', hs1'⟩, hcs'⟩ := (h2.kept (HkW.out.trans' hk)).at hlt
   obtain rfl : x' = x := Option.some.inj (hx'.symm.trans hx)
   have hcs1 : ∀ (j : Nat) v, (x'.cellsC A c)[j]? = some v → wr.cell? ⟨b, off + i * 13 + j, none⟩ = some v := fun j v h => hcs j v h
   have hcs2 : ∀ (j : Nat) v, (x'.cellsC A' c')[j]? = some v → wr.cell? ⟨b', off' + i * 13 + j, none⟩ = some v := fun j v h => hcs' j v h
   have x0 : wr.cell? ⟨b, off + i * 13, none⟩ = _ := hcs1 0 _ rfl
   have y0 : wr.cell? ⟨b', off' + i * 13, none⟩ = _ := hcs2 0 _ rfl
   have x1 := hcs1 1 _ rfl
   have y1 := hcs2 1 _ rfl
   have x2 := hcs1 2 _ rfl
   have y2 := hcs2 2 _ rfl
   have x3 := hcs1 3 _ rfl
   have y3 := hcs2 3 _ rfl
   have x4 := hcs1 4 _ rfl
   have y4 := hcs2 4 _ rfl
   have x5 := hcs1 5 _ rfl
   have y5 := hcs2 5 _ rfl
   have x6 := hcs1 6 _ rfl
   have y6 := hcs2 6 _ rfl
   have x7 := hcs1 7 _ rfl
   have y7 := hcs2 7 _ rfl
   have x8 := hcs1 8 _ rfl
   have y8 := hcs2 8 _ rfl
   have x9 := hcs1 9 _ rfl
   have y9 := hcs2 9 _ rfl
   have x10 := hcs1 10 _ rfl
   have y10 := hcs2 10 _ rfl
   have x11 := hcs1 11 _ rfl
   have y11 := hcs2 11 _ rfl
   have x12 := hcs1 12 _ rfl
   have y12 := hcs2 12 _ rfl
   have hbl : b < wr.heap.size := hbb
   have hbl' : b' < wr.heap.size := hbb'
   have hi0 : (0 : Int) ≤ (i : Int) := by omega
   have hlt' : (i : Int) < (n : Int) := by omega
   have Hs1 := hide hs1
   have Hs1' := hide hs1'
   have Hu := hide (Nat.le_trans hu1 hu2)
   clear hx hx' hcs hcs' hcs1 hcs2 hs1 hs1' hu1 hu2 hu1' hu2'
   have Hk0 := hide hk
   clear hk
   go_upto_region 6 with (fail)
   go_region_held3 (fun w' => (∀ b o, b < wr.heap.size → w'.cell? ⟨b, o, none⟩ = wr.cell? ⟨b, o, none⟩) ∧ Below wr.heap.size wr w') (first | assumption | exact since_start | exact since_keep (by assumption) (Nat.le_refl _) hk) ((go_at_call 24; refine (same_eqC x' A A' c c' _ Hu.out (by exact Hs1.out.kept ((Below.refl _ _).drew)) (by exact Hs1'.out.kept ((Below.refl _ _).drew))).mono ?_; rintro e w1 ⟨rfl, hk⟩))
   go_wp2_with fail
   go_roundg (gk - 1)
   case measure => have := Hi.out; omega
   case rel => exact ⟨i + 1, by have := Hi.out; omega, by go_num, since_kept Hk0.out (by assumption) (Nat.le_refl _)⟩
  ·have hge : (n : Int) ≤ (i : Int) := by omega
   have Hk := hide hk
   clear hk
   go_upto_region 9 with (fail)
   refine wp_at (fun W3 => Kept W W3) Hk.out (fun W3 hk3 => ?_)
   go_loopg [6] m (fun g s6 wr => ∃ i : Nat, i + g = m ∧ s6 = .int .i64 i ∧ Kept W wr)
   case atStart => exact ⟨0, by omega, rfl, hk3⟩
   case round =>
    obtain ⟨j, hj, rfl, hk⟩ := hrel
    have Hj := hide hj
    have b1 := heap_kept hk HB1.out
    have b2 := heap_kept hk HB2.out
    have l1 := heap_lt b1
    have l2 := heap_lt b2
    have p1 : wr.cell? ⟨w.heap.size, 1, none⟩ = some (.slice C1 m d1) := cell_heap b1 (o := 1) rfl
    have q1 : wr.cell? ⟨w.heap.size + 1, 1, none⟩ = some (.slice C2 m d2) := cell_heap b2 (o := 1) rfl
    clear hj b1 b2 hlt hge
    by_cases hlt : j < m
    ·obtain ⟨x, b, off, cs, hx, rfl, hbb, ⟨rfl, _⟩, hcs⟩ := (g1.kept (HkW.out.trans' hk)).at hlt
     obtain ⟨x', b', off', cs', hx', rfl, hbb', ⟨rfl, _⟩, hcs'⟩ := (g2.kept (HkW.out.trans' hk)).at hlt
     obtain rfl : x' = x := Option.some.inj (hx'.symm.trans hx)
     have hcs1 : ∀ (o : Nat) v, (x'.cells)[o]? = some v → wr.cell? ⟨b, off + j * 3 + o, none⟩ = some v := fun o v h => hcs o v h
     have hcs2 : ∀ (o : Nat) v, (x'.cells)[o]? = some v → wr.cell? ⟨b', off' + j * 3 + o, none⟩ = some v := fun o v h => hcs' o v h
     have x0 : wr.cell? ⟨b, off + j * 3, none⟩ = _ := hcs1 0 _ rfl
     have x1 := hcs1 1 _ rfl
     have x2 := hcs1 2 _ rfl
     have y0 : wr.cell? ⟨b', off' + j * 3, none⟩ = _ := hcs2 0 _ rfl
     have y1 := hcs2 1 _ rfl
     have y2 := hcs2 2 _ rfl
     have hbl : b < wr.heap.size := hbb
     have hbl' : b' < wr.heap.size := hbb'
     have hi0 : (0 : Int) ≤ (j : Int) := by omega
     have hlt' : (j : Int) < (m : Int) := by omega
     clear hx hx' hcs hcs' hcs1 hcs2
     go_upto_region 11 with (fail)
     go_quiet (fail)
     go_wp2_with fail
     go_roundg (gk - 1)
     case measure => have := Hj.out; omega
     case rel => exact ⟨j + 1, by have := Hj.out; omega, by go_num, below_drewN hk _⟩
    ·have hge : (m : Int) ≤ (j : Int) := by omega
     go_wp2_with fail
     go_ret
     exact ⟨rfl, HkW.out.trans' hk⟩
def GoodI (l : List It) : Prop := ∀ x ∈ l, x.wide = true ∧ x.ok
theorem GoodI.nil : GoodI [] := fun x h => by cases h
theorem GoodI.app {l m : List It} (h : GoodI l) (k : GoodI m) : GoodI (l ++ m) := fun x hx => (List.mem_append.1 hx).elim (h x) (k x)
theorem GoodI.one {t g n : Int} {sg : Bool} (ht : 0 ≤ t ∧ t ≤ 2) (hg : 0 ≤ g ∧ g ≤ 15) : GoodI [itemS t g n sg] := fun x hx => by
 obtain rfl : x = itemS t g n sg := by simpa using hx
 exact itemS_ok ht hg
theorem GoodI.cons {t g n : Int} {sg : Bool} {l : List It} (ht : 0 ≤ t ∧ t ≤ 2) (hg : 0 ≤ g ∧ g ≤ 15) (h : GoodI l) : GoodI (itemS t g n sg :: l) := (GoodI.one ht hg).app h
theorem GoodI.if_ {b : Bool} {l : List It} (h : GoodI l) : GoodI (if b then l else []) := by cases b; exact GoodI.nil; exact h
theorem tag_rng {nb : Bool} {f : PF} (hf : f.ok) : 0 ≤ tagF (fdS nb f).kind ∧ tagF (fdS nb f).kind ≤ 15 := by
 rcases fd_kind (nb := nb) hf with e | e | e <;> rw [e] <;> decide
theorem good_uses (w2 : Int) (f : PF) : GoodI (usesI w2 f) := by
 unfold usesI
 split
 ·exact GoodI.cons (by decide) (by decide) (GoodI.one (by decide) (by decide))
 ·intro x hx
  obtain ⟨k, _, rfl⟩ := List.mem_map.1 hx
  exact itemS_ok (by decide) (by decide)
theorem good_step {w3 w2 : Int} {nb : Bool} {i : Nat} {s : SI} {f : PF} (hf : f.ok) (h : GoodI s.out) : GoodI (stepI w3 w2 nb i s f).out := by
 have e1 : GoodI (i1 f i s.depth) := GoodI.if_ (GoodI.cons (by decide) (by decide) (GoodI.one (by decide) (by decide)))
 have e2 : GoodI (i2 w3) := by
  unfold i2
  split
  ·exact GoodI.cons (by decide) (by decide) (GoodI.cons (by decide) (by decide) (GoodI.cons (by decide) (by decide) (GoodI.cons (by decide) (by decide) (GoodI.one (by decide) (by decide)))))
  ·exact GoodI.nil
 have e3 : GoodI (i3 w3 i s.last (fdS nb f)) := GoodI.if_ (GoodI.one (by decide) (by decide))
 have e4 : GoodI (i4 w3 i s.last (fdS nb f)) := GoodI.if_ (GoodI.one (by decide) (by decide))
 have e5 : GoodI (i5 w3 i s.last (fdS nb f)) := GoodI.if_ (GoodI.one (by decide) (by decide))
 have e6 : GoodI (i6 w3 i s.last (fdS nb f)) := GoodI.if_ (GoodI.one (by decide) (by decide))
 have e7 : GoodI (i7 nb w3 i s.last (fdS nb f)) := GoodI.if_ (GoodI.one (by decide) (by decide))
 have e8 := good_uses w2 f
 have e9 : GoodI (i9 f (fdS nb f)) := GoodI.one (by decide) (tag_rng hf)
 have e10 : GoodI (i10 f (d1 f s.depth)) := GoodI.if_ (GoodI.one (by decide) (by decide))
 exact ((((((((((h.app e1).app e2).app e3).app e4).app e5).app e6).app e7).app e8).app e9).app e10)
theorem len_if {b : Bool} {l : List It} : (if b then l else []).length ≤ l.length := by cases b <;> simp
theorem len_step (w3 w2 : Int) (nb : Bool) (i : Nat) (s : SI) (f : PF) : (stepI w3 w2 nb i s f).out.length ≤ s.out.length + 20 := by
 have e1 : (i1 f i s.depth).length ≤ 2 := len_if
 have e2 : (i2 w3).length ≤ 5 := by unfold i2; split <;> simp [betweenI]
 have e3 : (i3 w3 i s.last (fdS nb f)).length ≤ 1 := len_if
 have e4 : (i4 w3 i s.last (fdS nb f)).length ≤ 1 := len_if
 have e5 : (i5 w3 i s.last (fdS nb f)).length ≤ 1 := len_if
 have e6 : (i6 w3 i s.last (fdS nb f)).length ≤ 1 := len_if
 have e7 : (i7 nb w3 i s.last (fdS nb f)).length ≤ 1 := len_if
 have e8 : (usesI w2 f).length ≤ 6 := by unfold usesI; split <;> simp [manyF]; omega
 have e9 : (i9 f (fdS nb f)).length = 1 := rfl
 have e10 : (i10 f (d1 f s.depth)).length ≤ 1 := len_if
 show (s.out ++ i1 f i s.depth ++ i2 w3 ++ i3 w3 i s.last (fdS nb f) ++ i4 w3 i s.last (fdS nb f) ++ i5 w3 i s.last (fdS nb f) ++ i6 w3 i s.last (fdS nb f) ++ i7 nb w3 i s.last (fdS nb f) ++ usesI w2 f ++ i9 f (fdS nb f) ++ i10 f (d1 f s.depth)).length ≤ _
 simp only [List.length_append]
 omega
theorem good_st {x : PD} (hx : ∀ f ∈ x.fields, f.ok) (w3 w2 : Int) : ∀ i, GoodI (stI w3 w2 x i).out ∧ (stI w3 w2 x i).out.length ≤ 4 + 20 * i
 | 0 => ⟨GoodI.cons (by decide) (by decide) (GoodI.cons (by decide) (by decide) (GoodI.cons (by decide) (by decide) (GoodI.one (by decide) (by decide)))), Nat.le_refl 4⟩
 | i + 1 => by
  obtain ⟨h1, h2⟩ := good_st hx w3 w2 i
  unfold stI
  cases hf : x.fields[i]? with
  | none => exact ⟨h1, by show (stI w3 w2 x i).out.length ≤ _; omega⟩
  | some f =>
   refine ⟨good_step (hx f (List.mem_of_getElem? hf)) h1, ?_⟩
   have := len_step w3 w2 x.numbers i (stI w3 w2 x i) f
   show (stepI w3 w2 x.numbers i (stI w3 w2 x i) f).out.length ≤ _
   omega
theorem good_items {x : PD} (hx : ∀ f ∈ x.fields, f.ok) (way : Int) : GoodI (itemsS way x) ∧ (itemsS way x).length ≤ 409 := by
 obtain ⟨h1, h2⟩ := good_st hx (way % 3) (way / 3 % 2) (lenD x)
 have h3 := stI_depth (way % 3) (way / 3 % 2) x (lenD x)
 have h4 : lenD x ≤ 20 := by unfold lenD; omega
 unfold itemsS
 refine ⟨h1.app (fun y hy => ?_), by rw [List.length_append, List.length_replicate]; omega⟩
 obtain ⟨_, rfl⟩ := List.mem_replicate.1 hy
 exact itemS_ok (by decide) (by decide)
theorem join_parse8 {L : List It} (hok : GoodI L) (hl : L.length ≤ 800) : joinE L = 0 ∧ parseE (joinB L) = (parseS L).1 ∧ parseM (joinB L) = (parseS L).2 ∧ (joinB L).length ≤ 4000 := by
 have hj := joinB_len L hok
 have hij := items_join L hok
 have h1 : joinE L = 0 := by
  unfold joinE
  rw [if_pos (List.all_eq_true.2 fun x hx => (hok x hx).1), if_neg (by omega)]
 have h2 : itemsE (joinB L) = 0 := by
  unfold itemsE goodB
  rw [hij, if_neg (by omega), if_pos]
  rw [List.all_eq_true]
  intro x hx
  have := (wide_iff (hok x hx).1 (hok x hx).2).2.2.2.2
  rw [decide_eq_true_eq]; omega
 refine ⟨h1, ?_, ?_, by omega⟩
 ·unfold parseE
  rw [if_neg (by rw [h2]; simp), hij]
 ·unfold parseM
  rw [hij]
theorem stM_rep {x : PD} (hx : ∀ f ∈ x.fields, f.ok) : ∀ i, ∀ f ∈ (stM x i).fields, 0 ≤ f.report ∧ f.report ≤ 3
 | 0, f, h => by cases h
 | i + 1, f, h => by
  unfold stM at h
  cases hf : x.fields[i]? with
  | none => rw [hf] at h; exact stM_rep hx i f h
  | some g =>
   rw [hf] at h
   rcases List.mem_append.1 h with h | h
   ·exact stM_rep hx i f h
   ·obtain rfl := List.mem_singleton.1 h
    have hr := (hx g (List.mem_of_getElem? hf)).2.1
    unfold u8k at hr
    show 0 ≤ (if x.numbers then 1 + g.report % 3 else 0 : Int) ∧ (if x.numbers then 1 + g.report % 3 else 0 : Int) ≤ 3
    split <;> omega
structure ToldIs (x : PD) (way : Int) : Prop where
 join : joinE (itemsS way x) = 0
 err : parseE (joinB (itemsS way x)) = 0
 flds : (parseM (joinB (itemsS way x))).fields = (stM x (lenD x)).fields
 colls : (parseM (joinB (itemsS way x))).colls = (stM x (lenD x)).colls
 numb : (parseM (joinB (itemsS way x))).numbered = (x.numbers && decide (0 < lenD x))
 len : (joinB (itemsS way x)).length ≤ 4000
 items : (itemsS way x).length ≤ 409
 sizes : SizesOk (stM x (lenD x)).fields
 cl64 : (stM x (lenD x)).colls.length ≤ 64
 rep : ∀ f ∈ (stM x (lenD x)).fields, 0 ≤ f.report ∧ f.report ≤ 3
 some : ∀ f ∈ (stM x (lenD x)).fields, 0 < lenD x
theorem told_is {x : PD} (hx : ∀ f ∈ x.fields, f.ok) (way : Int) : ToldIs x way := by
 obtain ⟨hg, hl⟩ := good_items hx way
 obtain ⟨j1, j2, j3, j4⟩ := join_parse8 hg (by omega)
 obtain ⟨s, h0, h1, h2, h3⟩ := told_run hx way
 have hr : (runS (itemsS way x) rs0).1 = 0 := by
  refine Classical.byContradiction fun h => ?_
  unfold parseS at h0
  rw [if_pos h] at h0
  exact h (by have := congrArg Prod.fst h0; exact this)
 have hs : (runS (itemsS way x) rs0).2 = s := by
  unfold parseS at h0
  rw [if_neg (by rw [hr]; simp)] at h0
  exact congrArg Prod.snd h0
 have hf := run_fine (itemsS way x) rs0 fine0 hg hr
 rw [hs] at hf
 refine ⟨j1, by rw [j2, h0], by rw [j3, h0]; exact h1, by rw [j3, h0]; exact h2, by rw [j3, h0]; exact h3, j4, hl, ?_, by rw [← h2]; exact hf.colls.1, stM_rep hx _, fun f hm => ?_⟩
 ·rw [← h1]
  refine ⟨hf.fields.1, fun f hf2 => ?_⟩
  obtain ⟨a, b, c, d, _⟩ := hf.fields.2 f hf2
  exact ⟨a, b, c, d⟩
 ·have h9 := (stM_ok hx (Nat.le_refl (lenD x))).2.2.1
  have := List.length_pos_iff.2 (List.ne_nil_of_mem hm)
  omega
theorem bits_pos {l : List Fd} (h : SizesOk l) {k r : Int} (hs : ∃ f ∈ l, f.kind = k ∧ f.report = r) : 1 ≤ bitsS l k r ∧ bitsS l k r ≤ 2097152 := by
 obtain ⟨f, hf, rfl, rfl⟩ := hs
 have hb := bits_le l f.kind f.report (fun g hg => h.2 g hg)
 have h2 := h.1
 obtain ⟨a, b, e⟩ := List.append_of_mem hf
 subst e
 have hz : bitsS (a ++ f :: b) f.kind f.report = bitsS a f.kind f.report + (f.size * f.count + bitsS b f.kind f.report) := by
  unfold bitsS
  rw [List.filter_append, List.filter_cons, if_pos (by simp), List.map_append, List.sum_append, List.map_cons, List.sum_cons]
 have ha := (bits_le a f.kind f.report (fun g hg => h.2 g (List.mem_append_left _ hg))).1
 have hb2 := (bits_le b f.kind f.report (fun g hg => h.2 g (List.mem_append_right _ (List.mem_cons_of_mem _ hg)))).1
 obtain ⟨s1, s2, s3, s4⟩ := h.2 f hf
 have h1 : 1 * f.count ≤ f.size * f.count := Int.mul_le_mul_of_nonneg_right (by omega) (by omega)
 have h3 : ((a ++ f :: b).length : Int) ≤ 256 := by omega
 omega
theorem len_of {l : List Fd} {nb : Bool} {k r : Int} (hs : ∃ f ∈ l, f.kind = k ∧ f.report = r) : lenS nb l k r = (bitsS l k r + 7) / 8 + if nb then 1 else 0 := by
 unfold lenS
 have : l.any (fun f => f.kind == k && f.report == r) = true := by
  obtain ⟨f, hf, h1, h2⟩ := hs
  exact List.any_eq_true.2 ⟨f, hf, by simp [h1, h2]⟩
 rw [this]
 rfl
variable {u0 u1 u2 u3 u4 u5 u6 u7 u8 gJ eH u16 eE eF dX dY dZ eA eB eC eD eI eJ eK eL eM eN u32 eO eP iN iO iP iQ iR fK iS iT iU iV iW iX gK gL gM gN gO gP gQ gR gS gT iY iZ jA jB jC jD jE u64 jF jG jH jJ jK jL jM jN jO jP jQ jR jZ kE kF kG kH jS jT jU jV jW jX kJ kK kM kN kO kP kQ kR kS kT kU kV aK aG aA aB aC aD aE aF aH aI aJ aL bC bD bE bF bG bH bI bJ bK bL aR aM aN aO aP aQ aS aT aU aV aW aX aY aZ bA : Value}
noncomputable def code15t : Code := (Try.f6.body.bind (findQ 15)).getD .skip
set_option maxRecDepth 1000000 in
theorem z15 {W : World} {B9 n fc nc cc ln cn i : Nat} {Af Ac An : Option Addr} {NM : Bool} {l : List Fd} {L : List Int} {k r : Int} (hB : W.heap[B9]? = some (.cells #[.slice Af n fc, .slice Ac nc cc, .bool NM] 40 (0, 0))) (hl : Sl fdM W (low W.heap.size) Af n l) (hs : SizesOk l)
  (hL : Sl u8T W (low W.heap.size) An ln L) (hr : L[i]? = some r) (hk : 1 ≤ k ∧ k ≤ 3)
  (Q : Exit → Act → World → Prop) (K K2 : Act → World → Prop) (hK : ∀ a w', Code.wp Try.prog (restC code15t) (Exit.then K2 Q) a w' → K a w') (hE : ∀ (tQ sJ sK sL sM sN sO sP sQ sR sS sT oD rL rM rN rO rP rQ rR rS rT rU rV rW sU sV sW sX sY sZ tA qZ rA rB rC rD rE rF rG rH rI rJ rK jI : Value) (w' : World), Kept W w' → K2 ⟨#[u0, u1, u2, u3, u4, u5, u6, u7, u8, .pointer (some ⟨B9, 0, none⟩), .int .i64 k, .slice An ln cn, gJ, .int .i64 (i : Int), .int .i64 (bitsS l k r), tQ, u16, eE, eF, dX, dY, dZ, eA, eB, eC, eD, eI, eJ, eK, eL, eM, eN, u32, eO, eP, iN, iO, iP, iQ, iR, fK, iS, iT, iU, iV, iW, iX, gK, gL, gM, gN, gO, gP, gQ, gR, gS, gT, sJ, sK, sL, sM, sN, sO, sP, sQ, sR, sS, sT, oD, rL, rM, rN, rO, rP, rQ, rR, rS, rT, rU, rV, rW, sU, sV, sW, sX, sY, sZ, tA, qZ, rA, rB, rC, rD, rE, rF, rG, rH, rI, rJ, rK, jI, aG, aA, aB, aC, aD, aE, aF, aH, aI, aJ, aL, bC, bD, bE, bF, bG, bH, bI, bJ, bK, bL, aR, aM, aN, aO, aP, aQ, aS, aT, aU, aV, aW, aX, aY, aZ, bA], []⟩ w') :
  Code.wp Try.prog (headC code15t) (Exit.then K (Exit.then K2 Q)) ⟨#[u0, u1, u2, u3, u4, u5, u6, u7, u8, .pointer (some ⟨B9, 0, none⟩), .int .i64 k, .slice An ln cn, gJ, .int .i64 (i : Int), .int .i64 0, eH, u16, eE, eF, dX, dY, dZ, eA, eB, eC, eD, eI, eJ, eK, eL, eM, eN, u32, eO, eP, iN, iO, iP, iQ, iR, fK, iS, iT, iU, iV, iW, iX, gK, gL, gM, gN, gO, gP, gQ, gR, gS, gT, iY, iZ, jA, jB, jC, jD, jE, u64, jF, jG, jH, jJ, jK, jL, jM, jN, jO, jP, jQ, jR, jZ, kE, kF, kG, kH, jS, jT, jU, jV, jW, jX, kJ, kK, kM, kN, kO, kP, kQ, kR, kS, kT, kU, kV, aK, aG, aA, aB, aC, aD, aE, aF, aH, aI, aJ, aL, bC, bD, bE, bF, bG, bH, bI, bJ, bK, bL, aR, aM, aN, aO, aP, aQ, aS, aT, aU, aV, aW, aX, aY, aZ, bA], []⟩ W := by
 have hn := hl.1
 have hn2 := hs.1
 rw [hn] at hn2
 obtain ⟨k1, k3⟩ := hk
 have hwk : IntKind.u8.wrap k = k := wrap8 (by omega) (by omega)
 have hin : i < ln := by rw [← hL.1]; exact (List.getElem?_eq_some_iff.1 hr).1
 obtain ⟨r', rb, ro, rcs, hr', hAn, hrb, ⟨rfl, _⟩, hrc⟩ := hL.at hin
 obtain rfl : r = r' := by rw [hr] at hr'; injection hr'
 have hr0 : W.cell? ⟨rb, ro + i, none⟩ = some (.int .u8 r) := by have := hrc 0 _ rfl; simpa [u8T, Ty.flat] using this
 have hrl : rb < W.heap.size := hrb
 have hii0 : (0 : Int) ≤ (i : Int) := by omega
 have hiin : (i : Int) < (ln : Int) := by omega
 subst hAn
 have Hs := hide hs
 have Hn := hide hn
 have Hl := hide hl
 have HB := hide hB
 have HE := hide hE
 clear hs hn hl hB hE hL hr hr' hrc hrb hin
 conv => arg 2; whnf
 conv at hK => enter [a, w', 1, 2]; whnf
 go_wp2_with fail
 go_loopg [14, 15] n (fun g' s14 tQ wr => ∃ j : Nat, j + g' = n ∧ s14 = .int .i64 (bitsS (l.take j) k r) ∧ tQ = .int .i64 (j : Int) ∧ Kept W wr)
 case atStart => exact ⟨0, by omega, rfl, rfl, Below.refl _ _⟩
 case round =>
  obtain ⟨j, hj, rfl, rfl, hkk⟩ := hrel
  have Hj := hide hj
  have hB' := heap_kept hkk HB.out
  have m0 : wr.cell? ⟨B9, 0, none⟩ = some (.slice Af n fc) := cell_heap hB' (o := 0) rfl
  have lM := heap_lt hB'
  have rr : wr.cell? ⟨rb, ro + i, none⟩ = some (.int .u8 r) := (hkk.cell (p := ⟨rb, ro + i, none⟩) hrl).trans hr0
  have hrl' := Nat.lt_of_lt_of_le hrl hkk.size
  have hwj : IntKind.i64.wrap ((j : Int) + 1) = ((j + 1 : Nat) : Int) := by rw [IntKind.wrap_i64]; omega
  have Hk := hide hkk
  clear hj hB' hkk
  by_cases hlt : j < n
  case pos =>
   obtain ⟨fk, b, off, cs, hfk, rfl, hbb, ⟨A9, c9, rfl, hul, hcl, _⟩, hcs⟩ := (Hl.out.kept Hk.out).at hlt
   have hcs' : ∀ (o : Nat) v, (fk.cellsC A9 c9)[o]? = some v → wr.cell? ⟨b, off + j * 13 + o, none⟩ = some v := fun o v h => hcs o v h
   have x0 : wr.cell? ⟨b, off + j * 13, none⟩ = some (.int .u8 fk.kind) := hcs' 0 _ rfl
   have x1 : wr.cell? ⟨b, off + j * 13 + 1, none⟩ = some (.int .u8 fk.report) := hcs' 1 _ rfl
   have x6 : wr.cell? ⟨b, off + j * 13 + 6, none⟩ = some (.int .i64 fk.size) := hcs' 6 _ rfl
   have x7 : wr.cell? ⟨b, off + j * 13 + 7, none⟩ = some (.int .i64 fk.count) := hcs' 7 _ rfl
   have hbl : b < wr.heap.size := hbb
   have hsn : l.take (j + 1) = l.take j ++ [fk] := by
    obtain ⟨h1, h2⟩ := List.getElem?_eq_some_iff.1 hfk
    rw [List.take_succ_eq_append_getElem h1, h2]
   have hbd := bits_le (l.take j) k r (fun f hf => Hs.out.2 f (List.mem_of_mem_take hf))
   have hlm : ((l.take j).length : Int) ≤ 256 := by have := List.length_take_le j l; omega
   obtain ⟨a1, a2, a3, a4⟩ := Hs.out.2 fk (List.mem_of_getElem? hfk)
   obtain ⟨PB, hPB⟩ : ∃ B, bitsS (l.take j) k r = B := ⟨_, rfl⟩
   rw [hPB] at hbd ⊢
   have hb1 : 0 ≤ PB := hbd.1
   have hb2 : PB ≤ 2097152 := by have := hbd.2; omega
   have hp1 : fk.size * fk.count ≤ 32 * fk.count := Int.mul_le_mul_of_nonneg_right (by omega) (by omega)
   have hp2 : 1 * fk.count ≤ fk.size * fk.count := Int.mul_le_mul_of_nonneg_right (by omega) (by omega)
   have hw1 : IntKind.i64.wrap (fk.size * fk.count) = fk.size * fk.count := by rw [IntKind.wrap_i64]; omega
   have hw2 : IntKind.i64.wrap (PB + fk.size * fk.count) = PB + fk.size * fk.count := by rw [IntKind.wrap_i64]; omega
   have hi0 : (0 : Int) ≤ (j : Int) := by omega
   have hlt' : (j : Int) < (n : Int) := by omega
   have hltd : decide ((j : Int) < (n : Int)) = true := decide_eq_true hlt'
   clear hcs hcs' hfk hbd hlm hlt hbb
   by_cases c1 : fk.kind = k
   case pos =>
    by_cases c2 : fk.report = r
    case pos =>
     have t1 : (fk.kind == k) = true := by rw [beq_iff_eq]; exact c1
     have t2 : (fk.report == r) = true := by rw [beq_iff_eq]; exact c2
     have hbs : bitsS (l.take (j + 1)) k r = PB + fk.size * fk.count := by
      rw [hsn, bitsS_snoc, hPB, t1, t2]; simp
     have Hbs := hide hbs
     clear hbs hsn hPB c1 c2
     go_upto_region 18 with (fail)
     go_quiet (fail)
     go_upto_region 19 with (fail)
     go_quiet (fail)
     go_wp2_with fail
     go_roundg (gk - 1)
     case measure => have := Hj.out; omega
     case rel => exact ⟨j + 1, by have := Hj.out; omega, by rw [Hbs.out], by first | rfl | go_num | (rw [hwj]), Hk.out.trans' (by first | exact Below.refl _ _ | exact below_drewN (Below.refl _ _) _ | go_grown)⟩
    case neg =>
     have t1 : (fk.kind == k) = true := by rw [beq_iff_eq]; exact c1
     have t2 : (fk.report == r) = false := beq_false_of_ne c2
     have hbs : bitsS (l.take (j + 1)) k r = PB := by
      rw [hsn, bitsS_snoc, hPB, t1, t2]; simp
     have Hbs := hide hbs
     clear hbs hsn hPB c1 c2
     go_upto_region 18 with (fail)
     go_quiet (fail)
     go_wp2_with fail
     go_roundg (gk - 1)
     case measure => have := Hj.out; omega
     case rel => exact ⟨j + 1, by have := Hj.out; omega, by rw [Hbs.out], by first | rfl | go_num | (rw [hwj]), Hk.out.trans' (by first | exact Below.refl _ _ | exact below_drewN (Below.refl _ _) _ | go_grown)⟩
   case neg =>
    have t1 : (fk.kind == k) = false := beq_false_of_ne c1
    have hbs : bitsS (l.take (j + 1)) k r = PB := by
     rw [hsn, bitsS_snoc, hPB, t1]; simp
    have Hbs := hide hbs
    clear hbs hsn hPB c1
    go_upto_region 18 with (fail)
    go_quiet (fail)
    go_wp2_with fail
    go_roundg (gk - 1)
    case measure => have := Hj.out; omega
    case rel => exact ⟨j + 1, by have := Hj.out; omega, by rw [Hbs.out], by first | rfl | go_num | (rw [hwj]), Hk.out.trans' (by first | exact Below.refl _ _ | exact below_drewN (Below.refl _ _) _ | go_grown)⟩
  case neg =>
   have hjn : j = n := by have := Hj.out; omega
   have hltd : decide ((j : Int) < (n : Int)) = false := decide_eq_false (by omega)
   have e9 : l.take j = l := by rw [hjn, ← Hn.out, List.take_length]
   rw [e9]
   clear hjn e9
   go_wp2_with fail
   exact HE.out _ _ _ _ _ _ _ _ _ _ _ _ _ _ _ _ _ _ _ _ _ _ _ _ _ _ _ _ _ _ _ _ _ _ _ _ _ _ _ _ _ _ _ _ _ _ Hk.out
end Go.Proofs.Ytegdigfcgeoboaa
