
/- What a configuration offers. The list reads as drivers, the configuration's interfaces as settings. -/
import Derived.Test.YtgkhenplbljbbaaChecked
import Derived.Deep.RegionHeld3
import Derived.Deep.DrawnRows
import Derived.Deep.DeepCutAuto
import Derived.Deep.LoopGhost
import Derived.Outline
import Derived.Handy
import Derived.Deep.RegionLaw
import Derived.RegionTactic
import Derived.ChangeAlike
import Derived.Test.YtgkhenplbljbbaaEd
import Derived.Test.YtgkhenplbljbbaaEe
import Derived.Test.YtgkhenplbljbbaaWc
set_option linter.unusedVariables false
set_option linter.unusedSimpArgs false
set_option linter.unusedSectionVars false
namespace Go.Proofs.Ytgkhenplbljbbaa
open Go.RowKit
attribute [local go_sem ↓] Go.wp_at_zero Go.wp_at_succ

def zeros (n : Nat) : Array Value := (List.replicate n (Value.int .i64 0)).toArray
theorem run_make (n : Nat) (h : n ≤ 5) : ∀ W : World, (Instr.makeSlice 61 (.int .i64 (n : Int)) (.int .i64 (n : Int))).run Try.prog W = .ok (.slice (some ⟨W.heap.size, 0, none⟩) n n) (W.alloc (.cells (zeros n) 3)) := by
  intro W
  rcases (by omega : n = 0 ∨ n = 1 ∨ n = 2 ∨ n = 3 ∨ n = 4 ∨ n = 5) with rfl | rfl | rfl | rfl | rfl | rfl <;> kernel_rfl

/-- the offer that is made at p, with its drivers at g -/
structure Fil (N : Nat) (W : World) (p g m : Nat) (num many sum : Int) (L : List Int) : Prop where
  ne : p ≠ g
  p0 : N ≤ p
  p1 : p < W.heap.size
  g0 : N ≤ g
  g1 : g < W.heap.size
  len : L.length = m
  box : OfrC W p ⟨num, L, many, sum⟩ (some ⟨g, 0, none⟩)
  row : Row W g L
theorem Fil.kept {N : Nat} {W W' : World} {p g m : Nat} {num many sum : Int} {L : List Int} (h : Fil N W p g m num many sum L) (hk : Kept W W') : Fil N W' p g m num many sum L :=
  ⟨h.ne, h.p0, Nat.lt_of_lt_of_le h.p1 hk.size, h.g0, Nat.lt_of_lt_of_le h.g1 hk.size, h.len, h.box.kept h.p1 hk, h.row.kept h.g1 hk⟩
theorem OfrC.other {W : World} {m : Nat} {o : Ofr} {A : Option Addr} (h : OfrC W m o A) {p : Addr} (hp : p.block ≠ m) (u : Value) : OfrC (W.setCell p u) m o A := by
  obtain ⟨h0, h1, h2, h3, h4, h5, h6, h7⟩ := h
  have hc : ∀ o, (W.setCell p u).cell? ⟨m, o, none⟩ = W.cell? ⟨m, o, none⟩ := fun o => World.cell?_setCell_other _ _ _ _ (fun e => hp (congrArg Addr.block e))
  exact ⟨(hc _).trans h0, (hc _).trans h1, (hc _).trans h2, (hc _).trans h3, by simpa using h4, by simpa using h5, by simpa using h6, by simpa using h7⟩
theorem Fil.set {N : Nat} {W : World} {p g m k : Nat} {num many sum : Int} {L : List Int} (h : Fil N W p g m num many sum L) (hk : k < m) (v : Int) : Fil N (W.setCell ⟨g, k, none⟩ (.int .i64 v)) p g m num many sum (L.set k v) := by
  refine ⟨h.ne, h.p0, by simpa using h.p1, h.g0, by simpa using h.g1, by rw [List.length_set]; exact h.len, ?_, h.row.set (by rw [h.len]; exact hk) v⟩
  have := h.box.other (p := ⟨g, k, none⟩) (fun e => h.ne e.symm) (.int .i64 v)
  unfold OfrC at *
  simpa only [List.length_set] using this
theorem Fil.setMany {N : Nat} {W : World} {p g m : Nat} {num many sum : Int} {L : List Int} (h : Fil N W p g m num many sum L) (v : Int) : Fil N (W.setCell ⟨p, 2, none⟩ (.int .i64 v)) p g m num v sum L := by
  refine ⟨h.ne, h.p0, by simpa using h.p1, h.g0, by simpa using h.g1, h.len, ?_, h.row.other (p := ⟨p, 2, none⟩) h.ne _⟩
  obtain ⟨h0, h1, h2, h3, h4, h5, h6, h7⟩ := h.box
  refine ⟨?_, ?_, ?_, ?_, by simpa using h4, by simpa using h5, by simpa using h6, by simpa using h7⟩
  · rw [World.cell?_setCell_other _ _ _ _ (by simp)]; exact h0
  · rw [World.cell?_setCell_other _ _ _ _ (by simp)]; exact h1
  · exact World.cell?_setCell_same _ _ _ (by rw [h2])
  · rw [World.cell?_setCell_other _ _ _ _ (by simp)]; exact h3
theorem Fil.setSum {N : Nat} {W : World} {p g m : Nat} {num many sum : Int} {L : List Int} (h : Fil N W p g m num many sum L) (v : Int) : Fil N (W.setCell ⟨p, 3, none⟩ (.int .i64 v)) p g m num many v L := by
  refine ⟨h.ne, h.p0, by simpa using h.p1, h.g0, by simpa using h.g1, h.len, ?_, h.row.other (p := ⟨p, 3, none⟩) h.ne _⟩
  obtain ⟨h0, h1, h2, h3, h4, h5, h6, h7⟩ := h.box
  refine ⟨?_, ?_, ?_, ?_, by simpa using h4, by simpa using h5, by simpa using h6, by simpa using h7⟩
  · rw [World.cell?_setCell_other _ _ _ _ (by simp)]; exact h0
  · rw [World.cell?_setCell_other _ _ _ _ (by simp)]; exact h1
  · rw [World.cell?_setCell_other _ _ _ _ (by simp)]; exact h2
  · exact World.cell?_setCell_same _ _ _ (by rw [h3])
theorem frozen_row {W : World} {p o : Nat} {cs : Array Value} {t : TypeId} (h : W.heap[p]? = some (.cells cs t (0, 0))) : W.frozen? ⟨p, o, none⟩ = false := by
  simp [World.frozen?, h]
theorem OfrC.heap {W : World} {p : Nat} {o : Ofr} {A : Option Addr} {t : TypeId} (h : W.heap[p]? = some (.cells #[.int .u8 o.num, .slice A o.drv.length o.drv.length, .int .i64 o.many, .int .i64 o.sum] t (0, 0))) : OfrC W p o A :=
  ⟨cell_of_row _ _ _ _ _ _ h, cell_of_row _ _ _ _ _ _ h, cell_of_row _ _ _ _ _ _ h, cell_of_row _ _ _ _ _ _ h, frozen_row h, frozen_row h, frozen_row h, frozen_row h⟩
theorem Row.heap {W : World} {g m : Nat} {t : TypeId} (h : W.heap[g]? = some (.cells (zeros m) t (0, 0))) : Row W g (List.replicate m 0) := fun j v hv => by
  obtain ⟨hj, e⟩ := List.getElem?_eq_some_iff.1 hv
  simp at hj e
  refine ⟨(cell_of_row _ _ _ _ _ _ h).trans ?_, frozen_row h⟩
  simp [zeros, hj, ← e]
theorem alt_at {w : World} {B n : Nat} {A : Option Addr} {l : List Int} {x : Int} (h : Sl altT w (low B) A n (x :: l)) : ∃ b off, A = some ⟨b, off, none⟩ ∧ b < B ∧ ∀ j v, (altCells x)[j]? = some v → w.cell? ⟨b, off + j, none⟩ = some v := by
  obtain ⟨y, b, off, cs, hx, hA, hbb, ⟨rfl, _⟩, hc⟩ := h.at (k := 0) (by rw [← h.1]; simp)
  have e : x = y := by simpa using hx
  subst e
  refine ⟨b, off, hA, hbb, fun j v hv => ?_⟩
  have := hc j v hv
  simpa using this

set_option maxRecDepth 100000 in
set_option maxHeartbeats 4000000 in
theorem offers_any (A : Option Addr) (n c : Nat) (l : List Drv) (d0 d1 d2 d3 d4 d5 d6 d7 d8 d9 d10 d11 : Int) (num power : Int) (A2 : Option Addr) (m c2 : Nat) (ifs : List (List Int)) (w : World) (hn : n ≤ maxLen) (hl : Sl drvT w (low w.heap.size) A n l)
    (hm : m ≤ 5) (hi : Sl ifT w (low w.heap.size) A2 m ifs) (hr : allR l (fun _ _ r => r.ok)) :
    Calls Try.prog 33 #[.slice A n c, .agg #[.int .u16 d0, .int .u8 d1, .int .u8 d2, .int .u8 d3, .int .u8 d4, .int .u16 d5, .int .u16 d6, .int .u16 d7, .int .u8 d8, .int .u8 d9, .int .u8 d10, .int .u8 d11], .agg #[.int .u16 0, .int .u8 0, .int .u8 num, .int .u8 0, .bool false, .bool false, .int .u8 power, .slice A2 m c2]] w fun e w' =>
      ∃ A', e = .returned (.agg #[.int .u8 num, .slice A' m m, .int .i64 (total (oneAt (mtS l d5 d6)) ifs), .int .i64 (total (sumAt (mtS l d5 d6)) ifs)]) ∧
        Sl i64T w' (fun b => w.heap.size ≤ b ∧ b < w'.heap.size) A' m (ifs.map (drvAt (mtS l d5 d6))) ∧ Kept w w' := by
  have hmt := mtS_ok hr d5 d6
  have Hmd := hide (fun n : Int => show mtS l d5 d6 n = matchS (fun r => r.score d5 d6 (3 + n % 3) (n / 3 % 3) (n / 9 % 3)) l from rfl)
  generalize mtS l d5 d6 = mt at *
  have hmk := run_make m hm
  have hil := hi.1
  have Hzl := hide (show (List.replicate m (0 : Int)).length = m by simp)
  have Hzz := hide (show fillL (drvAt mt) ifs 0 = List.replicate m 0 by rw [fillL_zero, hil])
  have Hil := hide hil
  clear hil
  go_enter Try.func33, Try.ntmps33
  go_wp2_with fail
  refine wp_name (B := w.heap.size) (w0 := w) (by go_grown) (fun W hcW hfW hz hkW => ?_)
  simp only [World.size_alloc] at hz
  have HcW := hide hcW
  have HfW := hide hfW
  go_upto_region 2 with (fail)
  go_cut [7] (fun s7 wc => ∃ p g, s7 = .pointer (some ⟨p, 0, none⟩) ∧ Fil W.heap.size wc p g m num 0 0 (List.replicate m 0) ∧ Below W.heap.size W wc)
  case first =>
    go_region
    all_goals go_wp2_with fail
    all_goals
      go_meet
      first
      | refine ⟨w.heap.size + 1 + 1 + 1 + 1, w.heap.size + 1 + 1 + 1, rfl, ⟨by omega, by omega, by simp; omega, by omega, by simp; omega, Hzl.out, ?_, ?_⟩, by go_grown⟩
      | refine ⟨w.heap.size + 1 + 1 + 1, w.heap.size + 1 + 1 + 1 + 1, rfl, ⟨by omega, by omega, by simp; omega, by omega, by simp; omega, Hzl.out, ?_, ?_⟩, by go_grown⟩
      · refine OfrC.heap (t := 114) (o := ⟨num, List.replicate m 0, 0, 0⟩) (by simp only [Hzl.out]; first | exact heap_drew (heap_at _ (by first | omega | (simp; omega))) | exact heap_drew (heap_past (heap_at _ (by first | omega | (simp; omega)))))
      · exact Row.heap (t := 3) (by first | exact heap_drew (heap_at _ (by first | omega | (simp; omega))) | exact heap_drew (heap_past (heap_at _ (by first | omega | (simp; omega)))))
  case rest =>
    obtain ⟨p, g, rfl, HF, hbel⟩ := hcut
    have Hz1 := hide (total_nil (oneAt mt))
    have Hz2 := hide (total_nil (sumAt mt))
    have hwW := hkW
    obtain ⟨hcr, hfr⟩ := bcell hbel
    have hcW := HcW.out
    have hfW := HfW.out
    have hszr : w.heap.size + 1 < wc.heap.size := by have := hbel.size; omega
    go_wp2_with fail
    go_loopg [24] m (fun gf s24 wr => ∃ k : Nat, k + gf = m ∧ s24 = .int .i64 k ∧ Fil W.heap.size wr p g m num (total (oneAt mt) (ifs.take k)) (total (sumAt mt) (ifs.take k)) (fillL (drvAt mt) ifs k) ∧ Below W.heap.size W wr)
    case atStart => exact ⟨0, by omega, rfl, by rw [Hzz.out]; exact HF, hbel⟩
    case round =>
      clear hcr hfr hszr hbel HF
      obtain ⟨k, hk, rfl, HF, hbel⟩ := hrel
      have Hk := hide hk
      clear hk
      have hkm : k ≤ m := by have := Hk.out; omega
      obtain ⟨t0, t1⟩ := total_take (oneAt mt) (oneAt_bound mt) (by decide) ifs k (by have := Hil.out; omega)
      obtain ⟨t2, t3⟩ := total_take (sumAt mt) (sumAt_bound hmt) (by decide) ifs k (by have := Hil.out; omega)
      generalize hq1 : total (oneAt mt) (ifs.take k) = q1 at *
      generalize hq2 : total (sumAt mt) (ifs.take k) = q2 at *
      have Hq1 := hide hq1
      have Hq2 := hide hq2
      clear hq1 hq2
      have HFk := hide HF
      obtain ⟨hpg, hp0, hp1, hg0, hg1, hlen, ⟨c0, c1', c2', c3, f0, f1, f2, f3⟩, hrow⟩ := HF
      obtain ⟨hcr, hfr⟩ := bcell hbel
      have hszr : w.heap.size + 1 + 1 < wr.heap.size := by have := hbel.size; omega
      have hpr : w.heap.size + 1 + 1 < p := by omega
      have hgr : w.heap.size + 1 + 1 < g := by omega
      simp only [hlen] at c1'
      by_cases hlt : k < m
      · obtain ⟨x, b, off, A', c', hx, rfl, hbw, _, hc1, hc2, hcell, hxs⟩ := slice_at hi (Below.refl _ _) hlt
        have Hx := hide hx
        clear hx
        obtain ⟨v0, r0, r1⟩ : ∃ v0, wr.cell? ⟨g, k, none⟩ = some (.int .i64 v0) ∧ wr.frozen? ⟨g, k, none⟩ = false := ⟨_, hrow k _ (List.getElem?_eq_getElem (by rw [hlen]; exact hlt))⟩
        clear hrow hlen
        have hlt' : (k : Int) < (m : Int) := by omega
        have hk0 : (0 : Int) ≤ (k : Int) := by omega
        have hbr : b < wr.heap.size := by omega
        have hbW : b < w.heap.size + 1 + 1 + 1 := by omega
        have hbW1 : b < w.heap.size + 1 + 1 := by omega
        have hbW2 : b < w.heap.size + 1 := by omega
        unfold maxLen at hc2
        cases x with
        | nil =>
          go_wp2_with fail
          go_roundg (gk - 1)
          case measure => have := Hk.out; omega
          case rel =>
            obtain ⟨a1, a2, a3⟩ := at_nil mt
            have e1 : total (oneAt mt) (ifs.take (k + 1)) = q1 := by rw [total_succ Hx.out, Hq1.out, a2]; omega
            have e2 : total (sumAt mt) (ifs.take (k + 1)) = q2 := by rw [total_succ Hx.out, Hq2.out, a3]; omega
            have e3 : fillL (drvAt mt) ifs (k + 1) = (fillL (drvAt mt) ifs k).set k (-1) := by rw [← fillL_set Hx.out, a1]
            exact ⟨k + 1, by have := Hk.out; omega, by go_num, by rw [e1, e2, e3]; exact (HFk.out.set hlt (-1)).kept ((Below.refl _ _).alloc (Nat.le_refl _) _), by go_grown⟩
        | cons y t =>
          obtain ⟨b3, off3, rfl, hb3, hal⟩ := alt_at hxs
          have y0 : w.cell? ⟨b3, off3, none⟩ = some (.int .u8 0) := hal 0 _ rfl
          have y1 : w.cell? ⟨b3, off3 + 1, none⟩ = some (.int .u8 0) := hal 1 _ rfl
          have y2 : w.cell? ⟨b3, off3 + 2, none⟩ = some (.int .u8 0) := hal 2 _ rfl
          have y3 : w.cell? ⟨b3, off3 + 3, none⟩ = some (.int .u8 (3 + y % 3)) := hal 3 _ rfl
          have y4 : w.cell? ⟨b3, off3 + 4, none⟩ = some (.int .u8 (y / 3 % 3)) := hal 4 _ rfl
          have y5 : w.cell? ⟨b3, off3 + 5, none⟩ = some (.int .u8 (y / 9 % 3)) := hal 5 _ rfl
          have y6 : w.cell? ⟨b3, off3 + 6, none⟩ = some (.int .u8 0) := hal 6 _ rfl
          have hlen : (y :: t).length = t.length + 1 := rfl
          clear hal hxs
          go_wp2_with fail
          refine wp_at (fun W2 => Fil W.heap.size W2 p g m num q1 q2 ((fillL (drvAt mt) ifs k).set k (-1)) ∧ Below W.heap.size W W2 ∧ W2.cell? ⟨wr.heap.size, 0, none⟩ = some (.slice (some ⟨b3, off3, none⟩) (t.length + 1) c') ∧ wr.heap.size < W2.heap.size)
            ⟨(HFk.out.set hlt (-1)).kept ((Below.refl _ _).alloc (Nat.le_refl _) _), by go_grown, by go_simp, by simp⟩ (fun W2 hW2 => ?_)
          obtain ⟨HF2, hbel2, hx2, hsz2⟩ := hW2
          clear c0 c1' c2' c3 f0 f1 f2 f3 r0 r1 hp1 hg1 HFk hfr hcr
          obtain ⟨hcr2, hfr2⟩ := bcell hbel2
          have hz2 : w.heap.size + 1 + 1 < W2.heap.size := by have := hbel2.size; omega
          have hz21 : w.heap.size + 1 < W2.heap.size := by omega
          have hz20 : w.heap.size < W2.heap.size := by omega
          have hzb : b3 < W2.heap.size := by have : b3 < w.heap.size := hb3; omega
          have hb31 : b3 < w.heap.size + 1 + 1 + 1 := by have : b3 < w.heap.size := hb3; omega
          have hb32 : b3 < w.heap.size + 1 + 1 := by have : b3 < w.heap.size := hb3; omega
          have hb33 : b3 < w.heap.size + 1 := by have : b3 < w.heap.size := hb3; omega
          have hslw := hide (hl.kept (hkW.trans (hbel2.mono (by omega))))
          rcases hmt y with hy | ⟨hy1, hy2, hy3⟩
          · go_region_held3 (fun w' => (∀ b o, b < W2.heap.size → w'.cell? ⟨b, o, none⟩ = W2.cell? ⟨b, o, none⟩) ∧ Below W2.heap.size W2 w') (first | assumption | exact since_start | exact since_keep (by assumption) (Nat.le_refl _) hk) (first
              | (go_at_call 14; refine (match_any _ _ _ l _ _ _ _ _ _ _ _ _ _ _ _ _ _ _ _ _ _ _ _ hn (by exact hslw.out.kept (Below.drew (Below.refl _ _)))).mono ?_; rw [← Hmd.out y, hy]; rintro e w1 ⟨rfl, hk⟩))
            have hS := (‹(∀ b o, b < W2.heap.size → _) ∧ Below W2.heap.size W2 w1›).2
            go_wp2_with fail
            go_roundg (gk - 1)
            case measure => have := Hk.out; omega
            case rel =>
              obtain ⟨a1, a2, a3⟩ := at_no (t := t) hy
              have e1 : total (oneAt mt) (ifs.take (k + 1)) = q1 := by rw [total_succ Hx.out, Hq1.out, a2]; omega
              have e2 : total (sumAt mt) (ifs.take (k + 1)) = q2 := by rw [total_succ Hx.out, Hq2.out, a3]; omega
              have e3 : fillL (drvAt mt) ifs (k + 1) = (fillL (drvAt mt) ifs k).set k (-1) := by rw [← fillL_set Hx.out, a1]
              exact ⟨k + 1, by have := Hk.out; omega, by go_num, by rw [e1, e2, e3]; exact HF2.kept hS, hbel2.trans (hS.mono hbel2.size)⟩
          · have hmy : mt y = ((mt y).1, (mt y).2) := rfl
            generalize hv1 : (mt y).1 = v1 at *
            generalize hv2 : (mt y).2 = v2 at *
            have Hv1 := hide hv1
            have Hv2 := hide hv2
            clear hv1 hv2
            go_region_held3 (fun w' => (∀ b o, b < W2.heap.size → w'.cell? ⟨b, o, none⟩ = W2.cell? ⟨b, o, none⟩) ∧ Below W2.heap.size W2 w') (first | assumption | exact since_start | exact since_keep (by assumption) (Nat.le_refl _) hk) (first
              | (go_at_call 14; refine (match_any _ _ _ l _ _ _ _ _ _ _ _ _ _ _ _ _ _ _ _ _ _ _ _ hn (by exact hslw.out.kept (Below.drew (Below.refl _ _)))).mono ?_; rw [← Hmd.out y, hmy]; rintro e w1 ⟨rfl, hk⟩))
            have hS := (‹(∀ b o, b < W2.heap.size → _) ∧ Below W2.heap.size W2 w1›).2
            have HF3 := HF2.kept hS
            have HF4 := hide HF3
            obtain ⟨_, _, hp1, _, hg1, hlen3, ⟨c0, c1', c2', c3, f0, f1, f2, f3⟩, hrow⟩ := HF3
            obtain ⟨r0, r1⟩ := hrow k (-1) (List.getElem?_set_self (by rw [List.length_set] at hlen3; omega))
            simp only [hlen3] at c1'
            clear hlen3 hrow
            go_wp2_with fail
            go_roundg (gk - 1)
            case measure => have := Hk.out; omega
            case rel =>
              obtain ⟨a1, a2, a3⟩ := at_yes (t := t) (by rw [Hv1.out]; exact hy1 : 0 ≤ (mt y).1)
              have e1 : total (oneAt mt) (ifs.take (k + 1)) = q1 + 1 := by rw [total_succ Hx.out, Hq1.out, a2]
              have e2 : total (sumAt mt) (ifs.take (k + 1)) = q2 + v2 := by rw [total_succ Hx.out, Hq2.out, a3, Hv2.out]
              have e3 : fillL (drvAt mt) ifs (k + 1) = ((fillL (drvAt mt) ifs k).set k (-1)).set k v1 := by rw [← fillL_set Hx.out, a1, Hv1.out, List.set_set]
              exact ⟨k + 1, by have := Hk.out; omega, by go_num, by rw [e1, e2, e3]; exact ((HF4.out.set hlt v1).setMany _).setSum _, by
                have h5 := hbel2.trans (hS.mono hbel2.size)
                go_grown⟩
      · have Hkm : Hid (k = ifs.length) := by have := Hk.out; have := Hil.out; exact (by omega : k = ifs.length)
        have hlt' : (m : Int) ≤ (k : Int) := by omega
        have Hq1' : Hid (total (oneAt mt) ifs = q1) := by have := Hq1.out; rwa [Hkm.out, List.take_length] at this
        have Hq2' : Hid (total (sumAt mt) ifs = q2) := by have := Hq2.out; rwa [Hkm.out, List.take_length] at this
        have Hsl : Hid (Sl i64T wr (fun b => b = g) (some ⟨g, 0, none⟩) m (ifs.map (drvAt mt))) := by
          have h := HFk.out.row.sl (F := fun b => b = g) rfl
          have h2 := HFk.out.len
          rw [h2] at h
          rw [Hkm.out, fillL_all] at h
          exact h
        have hkwr : Kept w wr := hkW.trans (hbel.mono hkW.size)
        go_wp2_with fail
        refine bodyPost_ret (v := .agg #[.int .u8 num, .slice (some ⟨g, 0, none⟩) m m, .int .i64 q1, .int .i64 q2]) (by simp [results, Try.results33, go_sem, *]) rfl ?_
        refine ⟨_, by rw [Hq1'.out, Hq2'.out], ?_, by go_grown⟩
        refine Hsl.out.keep (fun b hb => ⟨by omega, by subst hb; simpa using hg1⟩) (fun b o hb => ?_)
        subst hb
        go_simp
end Go.Proofs.Ytgkhenplbljbbaa
