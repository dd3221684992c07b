/- bytes: the bytes of a configuration, and whether its descriptors are valid. Printed by gen_sq.py. -/
import Derived.Test.YtjgncofhobhjdaaDoorChecked
import Derived.Deep.RegionHeld3
import Derived.Deep.DrawnRows
import Derived.Deep.DeepCutAuto
import Derived.Deep.LoopGhost
import Derived.Outline
import Derived.Handy
import Derived.OwnWalk
import Derived.BigQuiet
import Derived.Test.YtjgncofhobhjdaaDoorN8
import Derived.Test.YtjgncofhobhjdaaDoorN4
set_option linter.unusedVariables false
set_option linter.unusedSimpArgs false
set_option linter.unusedSectionVars false
namespace Go.Proofs.YtjgncofhobhjdaaDoor
open Go.RowKit
attribute [local go_sem ↓] Go.wp_at_zero Go.wp_at_succ

def EncRes (w : World) (l : List Int) (ok : Bool) (e : Ending) (w' : World) : Prop := ∃ (A : Option Addr) (m cap : Nat) (E : Int), e = .returned (.tuple #[.slice A m cap, .int .i64 E]) ∧ Sl u8T w' (fun b => w.heap.size ≤ b ∧ b < w'.heap.size) A m l ∧ (E == 0) = ok ∧ Kept w w'
theorem encCfgB (d : CfgD) (w : World) (hd : d.ok) : Calls Tryd.prog 71 #[.agg d.cells.toArray] w (EncRes w (encCfg d) (okCfg d)) := by
  cases ho : okCfg d with
  | false =>
    have he : encCfg d = [] := by unfold encCfg; rw [ho]; rfl
    rw [he]
    exact (encCfg_bad d w ho).mono fun e w' ⟨h1, h2⟩ => ⟨none, 0, 0, 1, h1, Sl.nil _ _ _ _, rfl, h2⟩
  | true =>
    have he : encCfg d = rawCfg d := by unfold encCfg; rw [ho]; rfl
    rw [he]
    exact (encCfg_ok d w hd ho).mono fun e w' ⟨A, cap, h1, h2, h3⟩ => ⟨A, 9, cap, 0, h1, h2, rfl, h3⟩
theorem encIfB (d : IfD) (w : World) (hd : d.ok) : Calls Tryd.prog 72 #[.agg d.cells.toArray] w (EncRes w (encIf d) (okIf d)) := by
  cases ho : okIf d with
  | false =>
    have he : encIf d = [] := by unfold encIf; rw [ho]; rfl
    rw [he]
    exact (encIf_bad d w ho).mono fun e w' ⟨h1, h2⟩ => ⟨none, 0, 0, 1, h1, Sl.nil _ _ _ _, rfl, h2⟩
  | true =>
    have he : encIf d = rawIf d := by unfold encIf; rw [ho]; rfl
    rw [he]
    exact (encIf_ok d w hd ho).mono fun e w' ⟨A, cap, h1, h2, h3⟩ => ⟨A, 9, cap, 0, h1, h2, rfl, h3⟩
theorem encEpB (d : EpD) (w : World) (hd : d.ok) : Calls Tryd.prog 75 #[.agg d.cells.toArray] w (EncRes w (encEp d) (okEp d)) := by
  cases ho : okEp d with
  | false =>
    have he : encEp d = [] := by unfold encEp; rw [ho]; rfl
    rw [he]
    exact (encEp_bad d w hd ho).mono fun e w' ⟨h1, h2⟩ => ⟨none, 0, 0, 1, h1, Sl.nil _ _ _ _, rfl, h2⟩
  | true =>
    have he : encEp d = rawEp d := by unfold encEp; rw [ho]; rfl
    rw [he]
    exact (encEp_ok d w hd ho).mono fun e w' ⟨A, cap, h1, h2, h3⟩ => ⟨A, 7, cap, 0, h1, h2, rfl, h3⟩
/-- what holds between the steps of bytes -/
structure St (B O V : Nat) (W X : World) (bs : List Int) (q : Bool) : Prop where
  bys : Bys B O V X bs.length bs q
  fr : FrA B O V W X
theorem St.kept {B O V : Nat} {W X Y : World} {bs : List Int} {q : Bool} (h : St B O V W X bs q) (hk : Kept X Y) : St B O V W Y bs q := ⟨h.bys.kept hk, h.fr.trans (FrA.kept hk h.bys.base)⟩
theorem foot_new {B O V k : Nat} {X Y : World} {bs l : List Int} {q : Bool} {A : Option Addr} {n : Nat} (h : Bys B O V X k bs q) (hk : Kept X Y) (hl : Sl u8T Y (fun b => X.heap.size ≤ b ∧ b < Y.heap.size) A n l) :
    Sl u8T Y (fun b => b < Y.heap.size ∧ ∀ v, Y.heap[O]? = some (.cells #[v] 34 (0, 0)) → v.ownBlock ≠ some b) A n l := by
  refine hl.keep (fun b hb => ⟨hb.2, fun v hv e => ?_⟩) (fun _ _ _ => rfl)
  obtain ⟨v', h1, h2⟩ := h.out
  have := (heap_kept hk h1).symm.trans hv
  injection this with this
  injection this with this
  have hvv : v' = v := by simpa using this
  subst hvv
  have := (h2.lt e).2
  omega
theorem foot_low {B O V k N : Nat} {X : World} {bs l : List Int} {q : Bool} {A : Option Addr} {n : Nat} (h : Bys B O V X k bs q) (hl : Sl u8T X (low N) A n l) (hN : N ≤ B) :
    Sl u8T X (fun b => b < X.heap.size ∧ ∀ v, X.heap[O]? = some (.cells #[v] 34 (0, 0)) → v.ownBlock ≠ some b) A n l := by
  refine hl.keep (fun b hb => ?_) (fun _ _ _ => rfl)
  have hb' : b < N := hb
  refine ⟨Nat.lt_of_lt_of_le hb' (Nat.le_trans hN h.base), fun v hv e => ?_⟩
  obtain ⟨v', h1, h2⟩ := h.out
  have := h1.symm.trans hv
  injection this with this
  injection this with this
  have hvv : v' = v := by simpa using this
  subst hvv
  have := (h2.lt e).1
  omega
theorem add_st {B O V n c : Nat} {W X : World} {bs l : List Int} {q : Bool} {A : Option Addr} (E : Int) (h : St B O V W X bs q) (hl : Sl u8T X (fun b => b < X.heap.size ∧ ∀ v, X.heap[O]? = some (.cells #[v] 34 (0, 0)) → v.ownBlock ≠ some b) A n l) (hkn : bs.length + n ≤ 1000000) :
    Calls Tryd.prog 70 #[.slice A n c, .int .i64 E, .pointer (some ⟨O, 0, none⟩), .pointer (some ⟨V, 0, none⟩)] X fun e X' => e = .returned (.tuple #[]) ∧ St B O V W X' (bs ++ l) (q && E == 0) ∧ Stays O V X X' ∧ Rest O V X X' ∧ X.heap.size ≤ X'.heap.size :=
  (add_any B O V bs.length n c bs l q A E X h.bys hl hkn).mono fun e X' ⟨h1, h2, h3, h4, h5⟩ => ⟨h1, ⟨by rw [List.length_append, hl.1]; exact h2, h.fr.trans h3⟩, h4, h5, h3.size⟩
theorem encCfg_len (d : CfgD) : (encCfg d).length ≤ 9 := by unfold encCfg; split <;> simp [rawCfg]
theorem encIf_len (d : IfD) : (encIf d).length ≤ 9 := by unfold encIf; split <;> simp [rawIf]
theorem encEp_len (d : EpD) : (encEp d).length ≤ 7 := by unfold encEp; split <;> simp [rawEp]
theorem flatMap_take {α : Type} (f : α → List Int) {l : List α} {i : Nat} {x : α} (h : l[i]? = some x) : (l.take (i + 1)).flatMap f = (l.take i).flatMap f ++ f x := by
  obtain ⟨h1, h2⟩ := List.getElem?_eq_some_iff.1 h
  rw [List.take_succ_eq_append_getElem h1, h2, List.flatMap_append]
  simp
theorem all_take {α : Type} (f : α → Bool) {l : List α} {i : Nat} {x : α} (h : l[i]? = some x) : (l.take (i + 1)).all f = ((l.take i).all f && f x) := by
  obtain ⟨h1, h2⟩ := List.getElem?_eq_some_iff.1 h
  rw [List.take_succ_eq_append_getElem h1, h2, List.all_append]
  simp
theorem divide_none (A : Option Addr) (n c : Nat) (bs : List Int) (w : World) (hnc : n ≤ c) (hc : c ≤ maxLen) (hl : Sl u8T w (low w.heap.size) A n bs) (hd : divide bs = none) :
    Calls Tryd.prog 32 #[.slice A n c] w fun e w' => (∃ E : Int, (E == 0) = false ∧ e = .returned (.tuple #[.slice none 0 0, .int .i64 E])) ∧ Kept w w' :=
  (divide_any A n c bs w hnc hc hl).mono fun e w' ⟨h, hk⟩ => by
    rcases h with ⟨_, E, h1, h2⟩ | ⟨l, _, _, h1, _⟩
    · exact ⟨⟨E, by simpa using h1, h2⟩, hk⟩
    · rw [hd] at h1; cases h1
theorem divide_some (A : Option Addr) (n c : Nat) (bs : List Int) (w : World) (hnc : n ≤ c) (hc : c ≤ maxLen) (hl : Sl u8T w (low w.heap.size) A n bs) {l : List (List Int)} (hd : divide bs = some l) :
    Calls Tryd.prog 32 #[.slice A n c] w fun e w' => (∃ A' k, e = .returned (.tuple #[.slice A' k k, .int .i64 0]) ∧ Sl u8T.slice w' (fun b => w.heap.size ≤ b ∧ b < w'.heap.size) A' k l) ∧ Kept w w' :=
  (divide_any A n c bs w hnc hc hl).mono fun e w' ⟨h, hk⟩ => by
    rcases h with ⟨h1, _⟩ | ⟨l', A', k, h1, h2, h3⟩
    · rw [hd] at h1; cases h1
    · rw [hd] at h1; injection h1 with h1; subst h1; exact ⟨⟨A', k, h2, h3⟩, hk⟩
theorem pieces_len : ∀ (l : List (List Int)), (∀ p ∈ l, 2 ≤ p.length) → l.length ≤ l.flatten.length
  | [], _ => Nat.le_refl _
  | p :: l, h => by
    have h1 := h p (List.mem_cons_self ..)
    have h2 := pieces_len l fun q hq => h q (List.mem_cons_of_mem _ hq)
    rw [List.flatten_cons, List.length_append, List.length_cons]
    omega
theorem pieces_stay {B O V k : Nat} {X Y Z : World} {bs : List Int} {q : Bool} {A : Option Addr} {n : Nat} {l : List (List Int)} (h : Bys B O V X k bs q) (hk : Kept X Y) (hl : Sl u8T.slice Y (fun b => X.heap.size ≤ b ∧ b < Y.heap.size) A n l) (hr : Rest O V Y Z) (hz : Y.heap.size ≤ Z.heap.size) : Sl u8T.slice Z (low Z.heap.size) A n l := by
  refine hl.keep (fun b hb => Nat.lt_of_lt_of_le hb.2 hz) (fun b o hb => ?_)
  have hb1 := h.base
  obtain ⟨l1, l2, _⟩ := h.low
  have := hr b hb.2 (by have := hb.1; omega) (by have := hb.1; omega) (fun v hv e => by
    obtain ⟨v', h1, h2⟩ := h.out
    have := (heap_kept hk h1).symm.trans hv
    injection this with this
    injection this with this
    have hvv : v' = v := by simpa using this
    subst hvv
    have := (h2.lt e).2
    have := hb.1
    omega)
  unfold World.cell?
  simp only [this]
theorem not_any (l : List (List Int)) : (!l.any fun p => stdS (kindB p)) = l.all fun b => !stdS (kindB b) := by
  rw [List.not_any_eq_all_not]
set_option maxRecDepth 100000 in
set_option maxHeartbeats 16000000 in
theorem bytes_any (c : Cfg) (A : Option Addr) (cap : Nat) (w : World) (hC : CfgIs w (low w.heap.size) c A cap) (hz : sizeS c ≤ 100000) :
    Calls Tryd.prog 31 #[.agg (c.cells A cap).toArray] w fun e w' => (∃ A' n', e = .returned (.tuple #[.slice A' n' n', .bool (validS c)]) ∧ Sl u8T w' (fun b => w.heap.size ≤ b ∧ b < w'.heap.size) A' n' (bytesS c)) ∧ Kept w w' := by
  obtain ⟨D, L⟩ := c
  have hd := hC.d
  have hcm := hC.cap
  have hnc := hC.len
  simp only at hd hnc
  obtain ⟨n, hn⟩ : ∃ n, L.length = n := ⟨_, rfl⟩
  rw [sizeS_eq] at hz
  simp only at hz
  unfold maxLen at hcm
  have henc := fun w' => encCfgB D w' hd
  unfold Cfg.cells
  unfold CfgD.cells at henc ⊢
  simp only [hn, List.cons_append, List.nil_append] at hnc ⊢
  have HC := hide hC
  have Hn := hide hn
  clear hC hn
  go_enter Tryd.func31, Tryd.ntmps31
  go_upto_region 4 with (fail)
  refine wp_at (fun W => W.heap[w.heap.size]? = some (.cells #[.int .u16 D.total, .int .u8 D.ifs, .int .u8 D.number, .int .u8 D.text, .bool D.self, .bool D.wake, .int .u8 D.power, .slice A n cap] 32 (0, 0)) ∧ Bys (w.heap.size + 1 + 1 + 1) (w.heap.size + 1) (w.heap.size + 1 + 1) W 0 [] true ∧ Kept w W) ⟨?_, ?_, by go_grown⟩ (fun W hW => ?_)
  · exact heap_kept (w := w.alloc (.cells #[.int .u16 D.total, .int .u8 D.ifs, .int .u8 D.number, .int .u8 D.text, .bool D.self, .bool D.wake, .int .u8 D.power, .slice A n cap] 32)) (by go_grown) (heap_at _ rfl)
  · refine ⟨⟨.slice none 0 0, heap_past (heap_at _ (by simp)), Own.nil _ _ _ _⟩, heap_at _ (by simp), ⟨by omega, by omega, by omega⟩, by simp⟩
  obtain ⟨hB, hbys, hkW⟩ := hW
  have hbl := heap_lt hB
  have b0 := cell_heap hB (o := 0) rfl
  have b1 := cell_heap hB (o := 1) rfl
  have b2 := cell_heap hB (o := 2) rfl
  have b3 := cell_heap hB (o := 3) rfl
  have b4 := cell_heap hB (o := 4) rfl
  have b5 := cell_heap hB (o := 5) rfl
  have b6 := cell_heap hB (o := 6) rfl
  have st0 : St (w.heap.size + 1 + 1 + 1) (w.heap.size + 1) (w.heap.size + 1 + 1) W W [] true := ⟨hbys, FrA.refl⟩
  have hcl := encCfg_len D
  go_upto_region 5 with (first
    | (go_at_call 71; refine (henc _).mono ?_; rintro e w1 ⟨A1, m1, cap1, E1, rfl, hs1, hE1, hk1⟩)
    | (go_at_call 70; refine (add_st _ (st0.kept hk1) (foot_new hbys hk1 hs1) (by have := hs1.1; simp; omega)).mono ?_; rintro e w2 ⟨rfl, hst, hsy, _⟩))
  refine wp_at (fun X => X.heap[w.heap.size]? = some (.cells #[.int .u16 D.total, .int .u8 D.ifs, .int .u8 D.number, .int .u8 D.text, .bool D.self, .bool D.wake, .int .u8 D.power, .slice A n cap] 32 (0, 0)) ∧ St (w.heap.size + 1 + 1 + 1) (w.heap.size + 1) (w.heap.size + 1 + 1) W X (encCfg D) (okCfg D)) ⟨hsy _ _ _ (heap_kept hk1 hB) (by decide) (by omega) (by omega), by rw [List.nil_append, Bool.true_and, hE1] at hst; exact hst⟩ (fun X0 hX0 => ?_)
  obtain ⟨hB0, hst0⟩ := hX0
  have HkW := hide hkW
  have hbl0 := heap_lt hB0
  have e7 := cell_heap hB0 (o := 7) rfl
  have HB0 := hide hB0
  clear hst hsy hs1 hE1 hk1 st0 hbys hB b0 b1 b2 b3 b4 b5 b6 henc hbl hB0
  obtain ⟨B, hBd⟩ : ∃ B, w.heap.size + 1 + 1 + 1 = B := ⟨_, rfl⟩
  obtain ⟨O, hOd⟩ : ∃ O, w.heap.size + 1 = O := ⟨_, rfl⟩
  obtain ⟨V, hVd⟩ : ∃ V, w.heap.size + 1 + 1 = V := ⟨_, rfl⟩
  rw [hBd, hVd, hOd] at hst0
  have hNO : w.heap.size ≤ O := by omega
  have hNV : w.heap.size ≤ V := by omega
  have hNB : w.heap.size ≤ B := by omega
  have hOB : O < B := by omega
  have hVB : V < B := by omega
  rw [hVd, hOd]
  clear hBd
  go_wp2_with fail
  go_loopg [26] n (fun g s26 wr => ∃ i : Nat, i + g = n ∧ s26 = .int .i64 i ∧ St B O V W wr (encCfg D ++ (L.take i).flatMap ifBytes) (okCfg D && (L.take i).all fun l => l.all altOk) ∧ (encCfg D ++ (L.take i).flatMap ifBytes).length ≤ 9 + sumC (L.take i))
  case atStart => exact ⟨0, by omega, rfl, by simpa using hst0, by simp; omega⟩
  case round =>
    obtain ⟨i, hi, rfl, hst, hbl⟩ := hrel
    have Hi := hide hi
    clear hi
    have hkw : Kept w wr := HkW.out.trans (hst.fr.toBelow hNB hNO hNV)
    by_cases hlt : i < n
    · obtain ⟨x, b, off, A', c', hx, rfl, hbl', x0, hxc, hcm', hs⟩ := if_at HC.out hkw (i := i) (by show i < L.length; rw [Hn.out]; exact hlt)
      have hmem := List.mem_of_getElem? hx
      have h2 := sumC_take (l := L) (i := i) hx
      have h3 := sumC_le L (i + 1)
      have hfm := flatMap_take ifBytes (l := L) hx
      have hal := all_take (fun l : List Alt => l.all altOk) (l := L) hx
      obtain ⟨m, hm⟩ : ∃ m, x.length = m := ⟨_, rfl⟩
      have h4 := len_le_sumIf x
      rw [hm] at x0 hxc hs h4
      have hi0 : (0 : Int) ≤ (i : Int) := by omega
      have hlt' : (i : Int) < (n : Int) := by omega
      have hwi : IntKind.i64.wrap ((i : Int) + 1) = ((i + 1 : Nat) : Int) := by rw [IntKind.wrap_i64]; omega
      unfold maxLen at hcm'
      obtain ⟨bs, hbs⟩ : ∃ bs, encCfg D ++ (L.take i).flatMap ifBytes = bs := ⟨_, rfl⟩
      obtain ⟨q, hq⟩ : ∃ q, (okCfg D && (L.take i).all fun l => l.all altOk) = q := ⟨_, rfl⟩
      rw [hbs] at hst hbl
      rw [hq] at hst
      obtain ⟨P, hP⟩ : ∃ P, 9 + sumC (L.take i) = P := ⟨_, rfl⟩
      rw [hP] at hbl
      have hPx : P + sumIf x ≤ 100000 := by omega
      have Hbs := hide hbs
      have Hq := hide hq
      have Hfm := hide hfm
      have Hal := hide hal
      have Hm := hide hm
      have HP := hide hP
      have H2 := hide h2
      have Hst := hide hst
      have hB1 := hst.bys.base
      clear hx hmem h2 h3 hfm hal hm hbs hq hst hP
      go_wp2_with fail
      obtain ⟨wo, rfl⟩ : ∃ wo, wo = wr := ⟨_, rfl⟩
      obtain ⟨go, rfl⟩ : ∃ go, go = gk := ⟨_, rfl⟩
      refine wp_at (fun Y => St B O V W Y bs q) (Hst.out.kept (by go_grown)) (fun Y0 hY0 => ?_)
      go_loopg [33] m (fun g s33 wr => ∃ j : Nat, j + g = m ∧ s33 = .int .i64 j ∧ St B O V W wr (bs ++ (x.take j).flatMap altBytes) (q && (x.take j).all altOk) ∧ (bs ++ (x.take j).flatMap altBytes).length ≤ P + sumIf (x.take j))
      case atStart => exact ⟨0, by omega, rfl, by simpa using hY0, by simp; omega⟩
      case round =>
        obtain ⟨j, hj, rfl, hst, hbj⟩ := hrel
        have Hj := hide hj
        clear hj
        have hkw2 : Kept w wr := HkW.out.trans (hst.fr.toBelow hNB hNO hNV)
        by_cases hlj : j < m
        · obtain ⟨a, b2, off2, X, cx, E, ce, ha, rfl, hbl2, hcells, hdo, q1, q2, q3, q4, q5, q6⟩ := alt_at hs hkw2 hlj
          have hsum := sumIf_take ha
          have hsle := sumIf_le x (j + 1)
          have hfm2 := flatMap_take altBytes ha
          have hal2 := all_take altOk ha
          have hasz : altSize a = 9 + a.extra.length + 7 * a.eps.length := rfl
          unfold maxLen at q2 q4
          have y0 := hcells 0 _ rfl
          rw [Nat.add_zero] at y0
          have y1 := hcells 1 _ rfl
          have y2 := hcells 2 _ rfl
          have y3 := hcells 3 _ rfl
          have y4 := hcells 4 _ rfl
          have y5 := hcells 5 _ rfl
          have y6 := hcells 6 _ rfl
          have y7 := hcells 7 _ rfl
          have y8 := hcells 8 _ rfl
          have hj0 : (0 : Int) ≤ (j : Int) := by omega
          have hlj' : (j : Int) < (m : Int) := by omega
          have hwj : IntKind.i64.wrap ((j : Int) + 1) = ((j + 1 : Nat) : Int) := by rw [IntKind.wrap_i64]; omega
          obtain ⟨bs1, hbs1⟩ : ∃ bs1, bs ++ (x.take j).flatMap altBytes = bs1 := ⟨_, rfl⟩
          obtain ⟨qq, hqq⟩ : ∃ qq, (q && (x.take j).all altOk) = qq := ⟨_, rfl⟩
          rw [hbs1] at hst hbj
          rw [hqq] at hst
          obtain ⟨T, hT⟩ : ∃ T, P + sumIf (x.take j) = T := ⟨_, rfl⟩
          rw [hT] at hbj
          have hTa : T + (9 + a.extra.length + 7 * a.eps.length) ≤ 100000 := by omega
          have hBr := hst.bys.base
          have hYO : wr.heap.size ≠ O := by omega
          have hYV : wr.heap.size ≠ V := by omega
          have Hbs1 := hide hbs1
          have Hqq := hide hqq
          have Hfm2 := hide hfm2
          have Hal2 := hide hal2
          have Hsum := hide hsum
          have Hasz := hide hasz
          have HT := hide hT
          have Hst1 := hide hst
          clear hcells hsum hsle hfm2 hal2 hasz hbs1 hqq hT hst ha
          go_upto_region 11 with (fail)
          refine wp_at (fun Y => Y.heap[wr.heap.size]? = some (.cells #[.int .u8 a.d.num, .int .u8 a.d.alt, .int .u8 a.d.eps, .int .u8 a.d.cls, .int .u8 a.d.sub, .int .u8 a.d.proto, .int .u8 a.d.text, .slice X a.extra.length cx, .slice E a.eps.length ce] 56 (0, 0)) ∧ St B O V W Y bs1 qq) ⟨heap_at _ rfl, Hst1.out.kept (by go_grown)⟩ (fun Y1 hY1 => ?_)
          obtain ⟨hA1, hs1⟩ := hY1
          have hl1 := heap_lt hA1
          have z0 := cell_heap hA1 (o := 0) rfl
          have z1 := cell_heap hA1 (o := 1) rfl
          have z2 := cell_heap hA1 (o := 2) rfl
          have z3 := cell_heap hA1 (o := 3) rfl
          have z4 := cell_heap hA1 (o := 4) rfl
          have z5 := cell_heap hA1 (o := 5) rfl
          have z6 := cell_heap hA1 (o := 6) rfl
          have z7 := cell_heap hA1 (o := 7) rfl
          have z8 := cell_heap hA1 (o := 8) rfl
          clear y0 y1 y2 y3 y4 y5 y6 y7 y8
          have hei := fun w' => encIfB a.d w' hdo
          unfold IfD.cells at hei
          have hel := encIf_len a.d
          go_upto_region 12 with (first
            | (go_at_call 72; refine (hei _).mono ?_; rintro e w1 ⟨A1, m1, cap1, E1, rfl, hsl1, hE1, hk1⟩)
            | (go_at_call 70; refine (add_st _ (hs1.kept hk1) (foot_new hs1.bys hk1 hsl1) (by have := hsl1.1; omega)).mono ?_; rintro e w2 ⟨rfl, hst2, hsy2, _⟩))
          refine wp_at (fun Y => Y.heap[wr.heap.size]? = some (.cells #[.int .u8 a.d.num, .int .u8 a.d.alt, .int .u8 a.d.eps, .int .u8 a.d.cls, .int .u8 a.d.sub, .int .u8 a.d.proto, .int .u8 a.d.text, .slice X a.extra.length cx, .slice E a.eps.length ce] 56 (0, 0)) ∧ St B O V W Y (bs1 ++ encIf a.d) (qq && okIf a.d)) ⟨hsy2 _ _ _ (heap_kept hk1 hA1) (by decide) hYO hYV, by rw [hE1] at hst2; exact hst2⟩ (fun Y2 hY2 => ?_)
          obtain ⟨hA2, hs2⟩ := hY2
          clear hA1 hs1 hst2 hsy2 hsl1 hE1 hk1 hei hl1 z0 z1 z2 z3 z4 z5 z6 z7 z8
          have hl2 := heap_lt hA2
          have z7 := cell_heap hA2 (o := 7) rfl
          have z8 := cell_heap hA2 (o := 8) rfl
          have hkY2 : Kept w Y2 := HkW.out.trans (hs2.fr.toBelow hNB hNO hNV)
          obtain ⟨qv, hq3⟩ : ∃ qv, (qq && okIf a.d) = qv := ⟨_, rfl⟩
          rw [hq3] at hs2
          obtain ⟨bs3, hbs3⟩ : ∃ bs3, bs1 ++ encIf a.d = bs3 := ⟨_, rfl⟩
          rw [hbs3] at hs2
          have hl3 : bs3.length ≤ T + 9 := by rw [← hbs3, List.length_append]; omega
          have Hq3 := hide hq3
          have Hbs3 := hide hbs3
          clear hq3 hbs3
          have hlx : bs3.length + a.extra.length ≤ 1000000 := by omega
          have hcxm : cx ≤ maxLen := by unfold maxLen; omega
          cases hdd : divide a.extra with
          | none =>
            have hdv := divide_none X a.extra.length cx a.extra Y2 q1 hcxm (q5.kept hkY2) hdd
            have hex : extraOk a.extra = false := by unfold extraOk; rw [hdd]
            have Hex := hide hex
            clear hex hdd
            go_upto_region 15 with (first
              | (go_at_call 32; refine hdv.mono ?_; rintro e w3 ⟨⟨E3, hE3, rfl⟩, hk3⟩; have a3 := heap_kept hk3 hA2; have z73 := cell_heap a3 (o := 7) rfl; have f73 := frozen_heap a3 (o := 7); have l73 := heap_lt a3)
              | (go_at_call 70; refine (add_st E3 (hs2.kept hk3) (foot_low (hs2.kept hk3).bys (q5.below (hkY2.trans (hk3.mono hkY2.size))) hNB) hlx).mono ?_; rintro e w4 ⟨rfl, hs4, hsy4, hr4, hz4⟩; rw [hE3, Bool.and_false] at hs4; have V4 := hs4.bys.val; have cV := cell_heap V4 (o := 0) rfl; have fV := frozen_heap V4 (o := 0); have lV := heap_lt V4))
            refine wp_at (fun Y => Y.heap[wr.heap.size]? = some (.cells #[.int .u8 a.d.num, .int .u8 a.d.alt, .int .u8 a.d.eps, .int .u8 a.d.cls, .int .u8 a.d.sub, .int .u8 a.d.proto, .int .u8 a.d.text, .slice X a.extra.length cx, .slice E a.eps.length ce] 56 (0, 0)) ∧ St B O V W Y (bs3 ++ a.extra) (qv && extraOk a.extra)) ⟨?_, ?_⟩ (fun Y5 hY5 => ?_)
            · exact (Below.heap_setCell _ _ _ _ hYV).trans (hsy4 _ _ _ (heap_kept hk3 hA2) (by decide) hYO hYV)
            · rw [Hex.out, Bool.and_false]; exact ⟨hs4.bys.setV _, hs4.fr.trans (FrA.setV 0 _)⟩
            clear a3 z73 f73 l73 hs4 hsy4 hr4 hz4 V4 cV fV lV hk3 hE3 hdv
            obtain ⟨hA5, hs5⟩ := hY5
            obtain ⟨q5v, hq5⟩ : ∃ q5v, (qv && extraOk a.extra) = q5v := ⟨_, rfl⟩
            rw [hq5] at hs5
            obtain ⟨bs5, hbs5⟩ : ∃ bs5, bs3 ++ a.extra = bs5 := ⟨_, rfl⟩
            rw [hbs5] at hs5
            have hl5 : bs5.length ≤ T + 9 + a.extra.length := by rw [← hbs5, List.length_append]; omega
            have Hq5 := hide hq5
            have Hbs5 := hide hbs5
            have lA5 := heap_lt hA5
            have z8' := cell_heap hA5 (o := 8) rfl
            obtain ⟨r, hr⟩ : ∃ r, a.eps.length = r := ⟨_, rfl⟩
            have Hr := hide hr
            rw [hr] at q3 q6 z8' hTa
            clear hq5 hbs5 hA2 hs2 hl2 z7 z8 hkY2 hlx hA5 hr
            go_wp2_with fail
            obtain ⟨w2o, rfl⟩ : ∃ w2o, w2o = wr := ⟨_, rfl⟩
            obtain ⟨g2, rfl⟩ : ∃ g2, g2 = gk := ⟨_, rfl⟩
            go_loopg [64] r (fun g s64 wr => ∃ p : Nat, p + g = r ∧ s64 = .int .i64 p ∧ St B O V W wr (bs5 ++ (a.eps.take p).flatMap encEp) (q5v && (a.eps.take p).all okEp) ∧ (bs5 ++ (a.eps.take p).flatMap encEp).length ≤ T + 9 + a.extra.length + 7 * p)
            case atStart => exact ⟨0, by omega, rfl, by simpa using hs5, by simp; omega⟩
            case round =>
              obtain ⟨p, hp, rfl, hst, hbp⟩ := hrel
              have Hp := hide hp
              clear hp
              have hkw3 : Kept w wr := HkW.out.trans (hst.fr.toBelow hNB hNO hNV)
              by_cases hlp : p < r
              · obtain ⟨ep, be, offe, cse, hep, rfl, hbe, hrel', hce⟩ := q6.at hlp
                obtain ⟨rfl, hdo3⟩ : cse = ep.cells ∧ ep.ok := hrel'
                have hfm3 := flatMap_take encEp hep
                have hal3 := all_take okEp hep
                have hbe' := Nat.lt_of_lt_of_le hbe hkw3.size
                have y := fun (o : Nat) v (hv : ep.cells[o]? = some v) => (hkw3.cell (p := ⟨be, offe + p * 5 + o, none⟩) hbe).trans (hce o v hv)
                have y0 := y 0 _ rfl
                rw [Nat.add_zero] at y0
                have y1 := y 1 _ rfl
                have y2 := y 2 _ rfl
                have y3 := y 3 _ rfl
                have y4 := y 4 _ rfl
                have hp0 : (0 : Int) ≤ (p : Int) := by omega
                have hlp' : (p : Int) < (r : Int) := by omega
                have hwp : IntKind.i64.wrap ((p : Int) + 1) = ((p + 1 : Nat) : Int) := by rw [IntKind.wrap_i64]; omega
                have hBp := hst.bys.base
                have hXO : wr.heap.size ≠ O := by omega
                have hXV : wr.heap.size ≠ V := by omega
                obtain ⟨bs6, hbs6⟩ : ∃ bs6, bs5 ++ (a.eps.take p).flatMap encEp = bs6 := ⟨_, rfl⟩
                obtain ⟨q6v, hq6⟩ : ∃ q6v, (q5v && (a.eps.take p).all okEp) = q6v := ⟨_, rfl⟩
                rw [hbs6] at hst hbp
                rw [hq6] at hst
                have Hbs6 := hide hbs6
                have Hq6 := hide hq6
                have Hfm3 := hide hfm3
                have Hal3 := hide hal3
                have Hst6 := hide hst
                have hlen6 : bs6.length + 7 ≤ 1000000 := by omega
                have Hbp := hide hbp
                clear y hce hfm3 hal3 hbs6 hq6 hst hep hbp
                go_upto_region 18 with (fail)
                refine wp_at (fun Y => Y.heap[wr.heap.size]? = some (.cells #[.int .u8 ep.num, .bool ep.inn, .int .u8 ep.kind, .int .u16 ep.max, .int .u8 ep.ivl] 59 (0, 0)) ∧ St B O V W Y bs6 q6v) ⟨heap_at _ rfl, Hst6.out.kept (by go_grown)⟩ (fun Y7 hY7 => ?_)
                obtain ⟨hA7, hs7⟩ := hY7
                have lA7 := heap_lt hA7
                have z0 := cell_heap hA7 (o := 0) rfl
                have z1 := cell_heap hA7 (o := 1) rfl
                have z2 := cell_heap hA7 (o := 2) rfl
                have z3 := cell_heap hA7 (o := 3) rfl
                have z4 := cell_heap hA7 (o := 4) rfl
                clear y0 y1 y2 y3 y4
                have hee := fun w' => encEpB ep w' hdo3
                unfold EpD.cells at hee
                have hel3 := encEp_len ep
                go_wp2_with (first
                  | (go_at_call 75; refine (hee _).mono ?_; rintro e w8 ⟨A8, m8, cap8, E8, rfl, hsl8, hE8, hk8⟩)
                  | (go_at_call 70; refine (add_st E8 (hs7.kept hk8) (foot_new hs7.bys hk8 hsl8) (by have := hsl8.1; omega)).mono ?_; rintro e w9 ⟨rfl, hs9, _⟩; rw [hE8] at hs9))
                go_roundg (gk - 1)
                case measure => have := Hp.out; omega
                case rel =>
                  refine ⟨p + 1, by have := Hp.out; omega, by first | rfl | go_num, ?_, ?_⟩
                  · rw [Hfm3.out, Hal3.out, ← List.append_assoc, Hbs6.out, ← Bool.and_assoc, Hq6.out]
                    exact hs9
                  · rw [Hfm3.out, ← List.append_assoc, Hbs6.out, List.length_append]
                    have := Hbp.out
                    omega
              · have hge : (r : Int) ≤ (p : Int) := by omega
                have htk : a.eps.take p = a.eps := List.take_of_length_le (by have := Hr.out; omega)
                have hpr : p = r := by have := Hp.out; omega
                rw [htk] at hst hbp
                rw [hpr] at hbp
                have Hst2 := hide hst
                have Hbp := hide hbp
                clear hst htk hpr hbp
                go_wp2_with fail
                go_roundg (g2 - 1)
                case measure => have := Hj.out; omega
                case rel =>
                  refine ⟨j + 1, by have := Hj.out; omega, by first | rfl | go_num, ?_, ?_⟩
                  · have h1 := Hst2.out
                    rw [Hfm2.out, Hal2.out, ← List.append_assoc, Hbs1.out, ← Bool.and_assoc, Hqq.out]
                    unfold altBytes altOk
                    rw [← List.append_assoc, ← List.append_assoc, ← Bool.and_assoc, ← Bool.and_assoc, Hbs3.out, Hbs5.out, Hq3.out, Hq5.out]
                    exact h1
                  · rw [Hfm2.out, ← List.append_assoc, Hbs1.out]
                    unfold altBytes
                    rw [← List.append_assoc, ← List.append_assoc, Hbs3.out, Hbs5.out]
                    have := Hsum.out
                    have := Hasz.out
                    have := HT.out
                    have := Hbp.out
                    have := Hr.out
                    omega
          | some l =>
            have hdv := divide_some X a.extra.length cx a.extra Y2 q1 hcxm (q5.kept hkY2) hdd
            have hex : extraOk a.extra = !l.any fun p => stdS (kindB p) := by unfold extraOk; rw [hdd, not_any]
            obtain ⟨d1, d2, d3⟩ := divide_inv hdd
            have d4 := pieces_len l fun p hp => (d2 p hp).1
            rw [d1] at d4
            have d5 : ∀ p ∈ l, 2 ≤ p.length := fun p hp => (d2 p hp).1
            have Hex := hide hex
            have H00 : ((0 : Int) == 0) = true := rfl
            clear hex hdd d1 d2
            cases qv with
            | false =>
              go_upto_region 15 with (first
                | (go_at_call 32; refine hdv.mono ?_; rintro e w3 ⟨⟨A3, k3, rfl, hsl3⟩, hk3⟩; have a3 := heap_kept hk3 hA2; have z73 := cell_heap a3 (o := 7) rfl; have f73 := frozen_heap a3 (o := 7); have l73 := heap_lt a3)
                | (go_at_call 70; refine (add_st 0 (hs2.kept hk3) (foot_low (hs2.kept hk3).bys (q5.below (hkY2.trans (hk3.mono hkY2.size))) hNB) hlx).mono ?_; rintro e w4 ⟨rfl, hs4, hsy4, hr4, hz4⟩; rw [Bool.false_and] at hs4; have V4 := hs4.bys.val; have cV := cell_heap V4 (o := 0) rfl; have fV := frozen_heap V4 (o := 0); have lV := heap_lt V4))
              refine wp_at (fun Y => Y.heap[wr.heap.size]? = some (.cells #[.int .u8 a.d.num, .int .u8 a.d.alt, .int .u8 a.d.eps, .int .u8 a.d.cls, .int .u8 a.d.sub, .int .u8 a.d.proto, .int .u8 a.d.text, .slice X a.extra.length cx, .slice E a.eps.length ce] 56 (0, 0)) ∧ St B O V W Y (bs3 ++ a.extra) (false && extraOk a.extra)) ⟨?_, ?_⟩ (fun Y5 hY5 => ?_)
              · exact (Below.heap_setCell _ _ _ _ hYV).trans (hsy4 _ _ _ (heap_kept hk3 hA2) (by decide) hYO hYV)
              · rw [Bool.false_and]; exact ⟨hs4.bys.setV _, hs4.fr.trans (FrA.setV 0 _)⟩
              clear a3 z73 f73 l73 hs4 hsy4 hr4 hz4 V4 cV fV lV hk3 hdv hsl3 H00
              obtain ⟨hA5, hs5⟩ := hY5
              obtain ⟨q5v, hq5⟩ : ∃ q5v, (false && extraOk a.extra) = q5v := ⟨_, rfl⟩
              rw [hq5] at hs5
              obtain ⟨bs5, hbs5⟩ : ∃ bs5, bs3 ++ a.extra = bs5 := ⟨_, rfl⟩
              rw [hbs5] at hs5
              have hl5 : bs5.length ≤ T + 9 + a.extra.length := by rw [← hbs5, List.length_append]; omega
              have Hq5 := hide hq5
              have Hbs5 := hide hbs5
              have lA5 := heap_lt hA5
              have z8' := cell_heap hA5 (o := 8) rfl
              obtain ⟨r, hr⟩ : ∃ r, a.eps.length = r := ⟨_, rfl⟩
              have Hr := hide hr
              rw [hr] at q3 q6 z8' hTa
              clear hq5 hbs5 hA2 hs2 hl2 z7 z8 hkY2 hlx hA5 hr
              go_wp2_with fail
              obtain ⟨w2o, rfl⟩ : ∃ w2o, w2o = wr := ⟨_, rfl⟩
              obtain ⟨g2, rfl⟩ : ∃ g2, g2 = gk := ⟨_, rfl⟩
              go_loopg [64] r (fun g s64 wr => ∃ p : Nat, p + g = r ∧ s64 = .int .i64 p ∧ St B O V W wr (bs5 ++ (a.eps.take p).flatMap encEp) (q5v && (a.eps.take p).all okEp) ∧ (bs5 ++ (a.eps.take p).flatMap encEp).length ≤ T + 9 + a.extra.length + 7 * p)
              case atStart => exact ⟨0, by omega, rfl, by simpa using hs5, by simp; omega⟩
              case round =>
                obtain ⟨p, hp, rfl, hst, hbp⟩ := hrel
                have Hp := hide hp
                clear hp
                have hkw3 : Kept w wr := HkW.out.trans (hst.fr.toBelow hNB hNO hNV)
                by_cases hlp : p < r
                · obtain ⟨ep, be, offe, cse, hep, rfl, hbe, hrel', hce⟩ := q6.at hlp
                  obtain ⟨rfl, hdo3⟩ : cse = ep.cells ∧ ep.ok := hrel'
                  have hfm3 := flatMap_take encEp hep
                  have hal3 := all_take okEp hep
                  have hbe' := Nat.lt_of_lt_of_le hbe hkw3.size
                  have y := fun (o : Nat) v (hv : ep.cells[o]? = some v) => (hkw3.cell (p := ⟨be, offe + p * 5 + o, none⟩) hbe).trans (hce o v hv)
                  have y0 := y 0 _ rfl
                  rw [Nat.add_zero] at y0
                  have y1 := y 1 _ rfl
                  have y2 := y 2 _ rfl
                  have y3 := y 3 _ rfl
                  have y4 := y 4 _ rfl
                  have hp0 : (0 : Int) ≤ (p : Int) := by omega
                  have hlp' : (p : Int) < (r : Int) := by omega
                  have hwp : IntKind.i64.wrap ((p : Int) + 1) = ((p + 1 : Nat) : Int) := by rw [IntKind.wrap_i64]; omega
                  have hBp := hst.bys.base
                  have hXO : wr.heap.size ≠ O := by omega
                  have hXV : wr.heap.size ≠ V := by omega
                  obtain ⟨bs6, hbs6⟩ : ∃ bs6, bs5 ++ (a.eps.take p).flatMap encEp = bs6 := ⟨_, rfl⟩
                  obtain ⟨q6v, hq6⟩ : ∃ q6v, (q5v && (a.eps.take p).all okEp) = q6v := ⟨_, rfl⟩
                  rw [hbs6] at hst hbp
                  rw [hq6] at hst
                  have Hbs6 := hide hbs6
                  have Hq6 := hide hq6
                  have Hfm3 := hide hfm3
                  have Hal3 := hide hal3
                  have Hst6 := hide hst
                  have hlen6 : bs6.length + 7 ≤ 1000000 := by omega
                  have Hbp := hide hbp
                  clear y hce hfm3 hal3 hbs6 hq6 hst hep hbp
                  go_upto_region 18 with (fail)
                  refine wp_at (fun Y => Y.heap[wr.heap.size]? = some (.cells #[.int .u8 ep.num, .bool ep.inn, .int .u8 ep.kind, .int .u16 ep.max, .int .u8 ep.ivl] 59 (0, 0)) ∧ St B O V W Y bs6 q6v) ⟨heap_at _ rfl, Hst6.out.kept (by go_grown)⟩ (fun Y7 hY7 => ?_)
                  obtain ⟨hA7, hs7⟩ := hY7
                  have lA7 := heap_lt hA7
                  have z0 := cell_heap hA7 (o := 0) rfl
                  have z1 := cell_heap hA7 (o := 1) rfl
                  have z2 := cell_heap hA7 (o := 2) rfl
                  have z3 := cell_heap hA7 (o := 3) rfl
                  have z4 := cell_heap hA7 (o := 4) rfl
                  clear y0 y1 y2 y3 y4
                  have hee := fun w' => encEpB ep w' hdo3
                  unfold EpD.cells at hee
                  have hel3 := encEp_len ep
                  go_wp2_with (first
                    | (go_at_call 75; refine (hee _).mono ?_; rintro e w8 ⟨A8, m8, cap8, E8, rfl, hsl8, hE8, hk8⟩)
                    | (go_at_call 70; refine (add_st E8 (hs7.kept hk8) (foot_new hs7.bys hk8 hsl8) (by have := hsl8.1; omega)).mono ?_; rintro e w9 ⟨rfl, hs9, _⟩; rw [hE8] at hs9))
                  go_roundg (gk - 1)
                  case measure => have := Hp.out; omega
                  case rel =>
                    refine ⟨p + 1, by have := Hp.out; omega, by first | rfl | go_num, ?_, ?_⟩
                    · rw [Hfm3.out, Hal3.out, ← List.append_assoc, Hbs6.out, ← Bool.and_assoc, Hq6.out]
                      exact hs9
                    · rw [Hfm3.out, ← List.append_assoc, Hbs6.out, List.length_append]
                      have := Hbp.out
                      omega
                · have hge : (r : Int) ≤ (p : Int) := by omega
                  have htk : a.eps.take p = a.eps := List.take_of_length_le (by have := Hr.out; omega)
                  have hpr : p = r := by have := Hp.out; omega
                  rw [htk] at hst hbp
                  rw [hpr] at hbp
                  have Hst2 := hide hst
                  have Hbp := hide hbp
                  clear hst htk hpr hbp
                  go_wp2_with fail
                  go_roundg (g2 - 1)
                  case measure => have := Hj.out; omega
                  case rel =>
                    refine ⟨j + 1, by have := Hj.out; omega, by first | rfl | go_num, ?_, ?_⟩
                    · have h1 := Hst2.out
                      rw [Hfm2.out, Hal2.out, ← List.append_assoc, Hbs1.out, ← Bool.and_assoc, Hqq.out]
                      unfold altBytes altOk
                      rw [← List.append_assoc, ← List.append_assoc, ← Bool.and_assoc, ← Bool.and_assoc, Hbs3.out, Hbs5.out, Hq3.out, Hq5.out]
                      exact h1
                    · rw [Hfm2.out, ← List.append_assoc, Hbs1.out]
                      unfold altBytes
                      rw [← List.append_assoc, ← List.append_assoc, Hbs3.out, Hbs5.out]
                      have := Hsum.out
                      have := Hasz.out
                      have := HT.out
                      have := Hbp.out
                      have := Hr.out
                      omega
            | true =>
              go_upto_region 15 with (first
                | (go_at_call 32; refine hdv.mono ?_; rintro e w3 ⟨⟨A3, k3, rfl, hsl3⟩, hk3⟩; have a3 := heap_kept hk3 hA2; have z73 := cell_heap a3 (o := 7) rfl; have f73 := frozen_heap a3 (o := 7); have l73 := heap_lt a3)
                | (go_at_call 70; refine (add_st 0 (hs2.kept hk3) (foot_low (hs2.kept hk3).bys (q5.below (hkY2.trans (hk3.mono hkY2.size))) hNB) hlx).mono ?_; rintro e w4 ⟨rfl, hs4, hsy4, hr4, hz4⟩; rw [H00, Bool.and_true] at hs4; have V4 := hs4.bys.val; have cV := cell_heap V4 (o := 0) rfl; have fV := frozen_heap V4 (o := 0); have lV := heap_lt V4; have hsz4 : w3.heap.size ≤ w4.heap.size := hz4)
                | (go_at_call 73; refine (anyB_any A3 k3 k3 l _ (by have := hsl3.1; omega) (pieces_stay hs2.bys hk3 hsl3 hr4 hsz4) d5).mono ?_; rintro e w5 ⟨rfl, hk5⟩; have V5 := heap_kept hk5 V4; have fV5 := frozen_heap V5 (o := 0); have cV5 := cell_heap V5 (o := 0) rfl; have lV5 := heap_lt V5))
              refine wp_at (fun Y => Y.heap[wr.heap.size]? = some (.cells #[.int .u8 a.d.num, .int .u8 a.d.alt, .int .u8 a.d.eps, .int .u8 a.d.cls, .int .u8 a.d.sub, .int .u8 a.d.proto, .int .u8 a.d.text, .slice X a.extra.length cx, .slice E a.eps.length ce] 56 (0, 0)) ∧ St B O V W Y (bs3 ++ a.extra) (true && extraOk a.extra)) ⟨?_, ?_⟩ (fun Y5 hY5 => ?_)
              · exact (Below.heap_setCell _ _ _ _ hYV).trans (heap_kept hk5 (hsy4 _ _ _ (heap_kept hk3 hA2) (by decide) hYO hYV))
              · rw [Hex.out, Bool.true_and]; have hs5 := hs4.kept hk5; exact ⟨hs5.bys.setV _, hs5.fr.trans (FrA.setV 0 _)⟩
              clear a3 z73 f73 l73 hs4 hsy4 hr4 hz4 V4 cV fV lV hk3 hdv hsl3 H00 V5 fV5 cV5 lV5 hk5 hsz4
              obtain ⟨hA5, hs5⟩ := hY5
              obtain ⟨q5v, hq5⟩ : ∃ q5v, (true && extraOk a.extra) = q5v := ⟨_, rfl⟩
              rw [hq5] at hs5
              obtain ⟨bs5, hbs5⟩ : ∃ bs5, bs3 ++ a.extra = bs5 := ⟨_, rfl⟩
              rw [hbs5] at hs5
              have hl5 : bs5.length ≤ T + 9 + a.extra.length := by rw [← hbs5, List.length_append]; omega
              have Hq5 := hide hq5
              have Hbs5 := hide hbs5
              have lA5 := heap_lt hA5
              have z8' := cell_heap hA5 (o := 8) rfl
              obtain ⟨r, hr⟩ : ∃ r, a.eps.length = r := ⟨_, rfl⟩
              have Hr := hide hr
              rw [hr] at q3 q6 z8' hTa
              clear hq5 hbs5 hA2 hs2 hl2 z7 z8 hkY2 hlx hA5 hr
              go_wp2_with fail
              obtain ⟨w2o, rfl⟩ : ∃ w2o, w2o = wr := ⟨_, rfl⟩
              obtain ⟨g2, rfl⟩ : ∃ g2, g2 = gk := ⟨_, rfl⟩
              go_loopg [64] r (fun g s64 wr => ∃ p : Nat, p + g = r ∧ s64 = .int .i64 p ∧ St B O V W wr (bs5 ++ (a.eps.take p).flatMap encEp) (q5v && (a.eps.take p).all okEp) ∧ (bs5 ++ (a.eps.take p).flatMap encEp).length ≤ T + 9 + a.extra.length + 7 * p)
              case atStart => exact ⟨0, by omega, rfl, by simpa using hs5, by simp; omega⟩
              case round =>
                obtain ⟨p, hp, rfl, hst, hbp⟩ := hrel
                have Hp := hide hp
                clear hp
                have hkw3 : Kept w wr := HkW.out.trans (hst.fr.toBelow hNB hNO hNV)
                by_cases hlp : p < r
                · obtain ⟨ep, be, offe, cse, hep, rfl, hbe, hrel', hce⟩ := q6.at hlp
                  obtain ⟨rfl, hdo3⟩ : cse = ep.cells ∧ ep.ok := hrel'
                  have hfm3 := flatMap_take encEp hep
                  have hal3 := all_take okEp hep
                  have hbe' := Nat.lt_of_lt_of_le hbe hkw3.size
                  have y := fun (o : Nat) v (hv : ep.cells[o]? = some v) => (hkw3.cell (p := ⟨be, offe + p * 5 + o, none⟩) hbe).trans (hce o v hv)
                  have y0 := y 0 _ rfl
                  rw [Nat.add_zero] at y0
                  have y1 := y 1 _ rfl
                  have y2 := y 2 _ rfl
                  have y3 := y 3 _ rfl
                  have y4 := y 4 _ rfl
                  have hp0 : (0 : Int) ≤ (p : Int) := by omega
                  have hlp' : (p : Int) < (r : Int) := by omega
                  have hwp : IntKind.i64.wrap ((p : Int) + 1) = ((p + 1 : Nat) : Int) := by rw [IntKind.wrap_i64]; omega
                  have hBp := hst.bys.base
                  have hXO : wr.heap.size ≠ O := by omega
                  have hXV : wr.heap.size ≠ V := by omega
                  obtain ⟨bs6, hbs6⟩ : ∃ bs6, bs5 ++ (a.eps.take p).flatMap encEp = bs6 := ⟨_, rfl⟩
                  obtain ⟨q6v, hq6⟩ : ∃ q6v, (q5v && (a.eps.take p).all okEp) = q6v := ⟨_, rfl⟩
                  rw [hbs6] at hst hbp
                  rw [hq6] at hst
                  have Hbs6 := hide hbs6
                  have Hq6 := hide hq6
                  have Hfm3 := hide hfm3
                  have Hal3 := hide hal3
                  have Hst6 := hide hst
                  have hlen6 : bs6.length + 7 ≤ 1000000 := by omega
                  have Hbp := hide hbp
                  clear y hce hfm3 hal3 hbs6 hq6 hst hep hbp
                  go_upto_region 18 with (fail)
                  refine wp_at (fun Y => Y.heap[wr.heap.size]? = some (.cells #[.int .u8 ep.num, .bool ep.inn, .int .u8 ep.kind, .int .u16 ep.max, .int .u8 ep.ivl] 59 (0, 0)) ∧ St B O V W Y bs6 q6v) ⟨heap_at _ rfl, Hst6.out.kept (by go_grown)⟩ (fun Y7 hY7 => ?_)
                  obtain ⟨hA7, hs7⟩ := hY7
                  have lA7 := heap_lt hA7
                  have z0 := cell_heap hA7 (o := 0) rfl
                  have z1 := cell_heap hA7 (o := 1) rfl
                  have z2 := cell_heap hA7 (o := 2) rfl
                  have z3 := cell_heap hA7 (o := 3) rfl
                  have z4 := cell_heap hA7 (o := 4) rfl
                  clear y0 y1 y2 y3 y4
                  have hee := fun w' => encEpB ep w' hdo3
                  unfold EpD.cells at hee
                  have hel3 := encEp_len ep
                  go_wp2_with (first
                    | (go_at_call 75; refine (hee _).mono ?_; rintro e w8 ⟨A8, m8, cap8, E8, rfl, hsl8, hE8, hk8⟩)
                    | (go_at_call 70; refine (add_st E8 (hs7.kept hk8) (foot_new hs7.bys hk8 hsl8) (by have := hsl8.1; omega)).mono ?_; rintro e w9 ⟨rfl, hs9, _⟩; rw [hE8] at hs9))
                  go_roundg (gk - 1)
                  case measure => have := Hp.out; omega
                  case rel =>
                    refine ⟨p + 1, by have := Hp.out; omega, by first | rfl | go_num, ?_, ?_⟩
                    · rw [Hfm3.out, Hal3.out, ← List.append_assoc, Hbs6.out, ← Bool.and_assoc, Hq6.out]
                      exact hs9
                    · rw [Hfm3.out, ← List.append_assoc, Hbs6.out, List.length_append]
                      have := Hbp.out
                      omega
                · have hge : (r : Int) ≤ (p : Int) := by omega
                  have htk : a.eps.take p = a.eps := List.take_of_length_le (by have := Hr.out; omega)
                  have hpr : p = r := by have := Hp.out; omega
                  rw [htk] at hst hbp
                  rw [hpr] at hbp
                  have Hst2 := hide hst
                  have Hbp := hide hbp
                  clear hst htk hpr hbp
                  go_wp2_with fail
                  go_roundg (g2 - 1)
                  case measure => have := Hj.out; omega
                  case rel =>
                    refine ⟨j + 1, by have := Hj.out; omega, by first | rfl | go_num, ?_, ?_⟩
                    · have h1 := Hst2.out
                      rw [Hfm2.out, Hal2.out, ← List.append_assoc, Hbs1.out, ← Bool.and_assoc, Hqq.out]
                      unfold altBytes altOk
                      rw [← List.append_assoc, ← List.append_assoc, ← Bool.and_assoc, ← Bool.and_assoc, Hbs3.out, Hbs5.out, Hq3.out, Hq5.out]
                      exact h1
                    · rw [Hfm2.out, ← List.append_assoc, Hbs1.out]
                      unfold altBytes
                      rw [← List.append_assoc, ← List.append_assoc, Hbs3.out, Hbs5.out]
                      have := Hsum.out
                      have := Hasz.out
                      have := HT.out
                      have := Hbp.out
                      have := Hr.out
                      omega
        · have hge : (m : Int) ≤ (j : Int) := by omega
          have htk : x.take j = x := List.take_of_length_le (by have := Hm.out; omega)
          rw [htk] at hst hbj
          have Hst2 := hide hst
          clear hst htk
          go_wp2_with fail
          go_roundg (go - 1)
          case measure => have := Hi.out; omega
          case rel =>
            refine ⟨i + 1, by have := Hi.out; omega, by first | rfl | go_num, ?_, ?_⟩
            · have h1 := Hst2.out
              rw [Hfm.out, Hal.out, ← List.append_assoc, Hbs.out, ← Bool.and_assoc, Hq.out]
              exact h1
            · rw [Hfm.out, ← List.append_assoc, Hbs.out]
              have := H2.out
              have := HP.out
              have h5 : (bs ++ ifBytes x).length ≤ P + sumIf x := hbj
              omega
    · have hge : (n : Int) ≤ (i : Int) := by omega
      have htk : L.take i = L := List.take_of_length_le (by have := Hn.out; omega)
      rw [htk] at hst
      obtain ⟨qz, hqz⟩ : ∃ qz, (okCfg D && L.all fun l => l.all altOk) = qz := ⟨_, rfl⟩
      obtain ⟨bz, hbz⟩ : ∃ bz, encCfg D ++ L.flatMap ifBytes = bz := ⟨_, rfl⟩
      rw [hqz, hbz] at hst
      have hqz2 : validS { d := D, ifs := L } = qz := hqz
      have hbz2 : bytesS { d := D, ifs := L } = bz := hbz
      have Hqz := hide hqz2
      have Hbz := hide hbz2
      have hkz : Kept w wr := HkW.out.trans (hst.fr.toBelow hNB hNO hNV)
      obtain ⟨v, hv1, hv2⟩ := hst.bys.out
      obtain ⟨A9, c9, rfl, h91, h92⟩ := hv2.isSlice
      have hv3 := hst.bys.val
      have cO := cell_heap hv1 (o := 0) rfl
      have lO := heap_lt hv1
      have cV := cell_heap hv3 (o := 0) rfl
      have lV := heap_lt hv3
      have hsl9 := hv2.sl_of (fun b => w.heap.size ≤ b ∧ b < wr.heap.size) (fun g h1 h2 => ⟨Nat.le_trans hNB h1, h2⟩) (fun _ _ hr => hr)
      clear hqz hbz hqz2 hbz2 htk hst hbl hv1 hv3
      go_upto_region 22 with (fail)
      go_region_held3 (fun w' => (∀ b o, b < wr.heap.size → w'.cell? ⟨b, o, none⟩ = wr.cell? ⟨b, o, none⟩) ∧ Below wr.heap.size wr w') (first | assumption | exact since_start | exact since_keep (by assumption) (Nat.le_refl _) hk) ((go_at_call 62; refine (clipB_any A9 _ c9 h91 h92 _).mono ?_; rintro e w8 ⟨rfl, hw8⟩; have hk : Kept _ w8 := (by rw [← hw8]; exact Below.refl _ _)))
      go_wp2_with fail
      have h8 : (∀ b o, b < wr.heap.size → w8.cell? ⟨b, o, none⟩ = wr.cell? ⟨b, o, none⟩) ∧ Below wr.heap.size wr w8 := by assumption
      refine bodyPost_ret (v := .tuple #[.slice A9 bz.length bz.length, .bool qz]) (by simp [results, Tryd.results31, go_sem]) rfl ⟨⟨A9, bz.length, by rw [Hqz.out], by rw [Hbz.out]; exact hsl9.keep (fun b hb => ⟨hb.1, Nat.lt_of_lt_of_le hb.2 h8.2.size⟩) (fun b o hb => h8.1 b o hb.2)⟩, hkz.trans (h8.2.mono hkz.size)⟩
end Go.Proofs.YtjgncofhobhjdaaDoor
