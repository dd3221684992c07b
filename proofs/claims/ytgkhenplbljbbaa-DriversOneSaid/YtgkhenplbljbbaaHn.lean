
/- Of: what a driver has. The registry reads as data; at most 12 addresses. -/
import Derived.Test.YtgkhenplbljbbaaChecked
import Derived.Deep.RegionHeld3
import Derived.Deep.DrawnRows
import Derived.Deep.DeepCutAuto
import Derived.Deep.LoopGhost
import Derived.Outline
import Derived.Handy
import Derived.OwnWalk
import Derived.Test.YtgkhenplbljbbaaHm
import Derived.Test.YtgkhenplbljbbaaHc
import Derived.Test.YtgkhenplbljbbaaBu
set_option linter.unusedVariables false
set_option linter.unusedSimpArgs false
set_option linter.unusedSectionVars false
namespace Go.Proofs.Ytgkhenplbljbbaa
open Go.RowKit Go.Maps Go.WideShapes
attribute [local go_sem ↓] Go.wp_at_zero Go.wp_at_succ

theorem bd_at {w w' : World} {B n k : Nat} {A : Option Addr} {l : List Bind} (h : Sl bdT w (low B) A n l) (hb : Below B w w') (hk : k < n) : ∃ x b off, l[k]? = some x ∧ A = some ⟨b, off, none⟩ ∧ b < B ∧ b < w'.heap.size ∧ x.d.size ≤ maxLen ∧
    w'.cell? ⟨b, off + k * 3, none⟩ = some (.int .u8 x.a) ∧ w'.cell? ⟨b, off + k * 3 + 1, none⟩ = some (.int .i64 x.i) ∧ w'.cell? ⟨b, off + k * 3 + 2, none⟩ = some (.string x.d) := by
  obtain ⟨x, b, off, cs, hx, hA, hbb, ⟨rfl, h1⟩, hc⟩ := h.at hk
  have hc' := range_below hc hb hbb
  exact ⟨x, b, off, hx, hA, hbb, World.block_lt_of_cell? w' _ (hc' 0 _ rfl), h1, hc' 0 _ rfl, hc' 1 _ rfl, hc' 2 _ rfl⟩
theorem ofS_take {l : List Drv} {S : St} {s : ByteArray} {ks : List Nat} {k n : Nat} (h : ks[k]? = some n) : ofS l S s (ks.take (k + 1)) = ofS l S s (ks.take k) ++ (bindS l n (S n)).filter (fun b => sameB b.d s) := flatMap_succ h
theorem sameL (x y : ByteArray) : (x.toList == y.toList) = sameB x y := by rw [ByteArray.toList_eq, ByteArray.toList_eq]; rfl
theorem heap_old {w : World} {o : Obj} {b : Nat} (h : b < w.heap.size) : (w.alloc o).heap[b]? = w.heap[b]? := Below.heap_alloc w o b h
theorem ofS_take_len {l : List Drv} {S : St} (hg : ∀ n, GoodC l (S n)) (s : ByteArray) (ks : List Nat) (k : Nat) (h : ks.length ≤ 12) : (ofS l S s (ks.take k)).length ≤ 60 := by
  have h1 := ofS_len (l := l) hg s (ks.take k)
  have h2 : (ks.take k).length ≤ ks.length := by rw [List.length_take]; omega
  omega
theorem filter_yes {s : ByteArray} {l : List Bind} {k : Nat} {x : Bind} (hx : l[k]? = some x) (h : sameB x.d s = true) : (l.take (k + 1)).filter (fun b => sameB b.d s) = (l.take k).filter (fun b => sameB b.d s) ++ [x] := by
  rw [filter_succ hx, h, if_pos rfl]
theorem filter_no {s : ByteArray} {l : List Bind} {k : Nat} {x : Bind} (hx : l[k]? = some x) (h : ¬ sameB x.d s = true) : (l.take (k + 1)).filter (fun b => sameB b.d s) = (l.take k).filter (fun b => sameB b.d s) := by
  rw [filter_succ hx, if_neg h, List.append_nil]
set_option maxRecDepth 100000 in
set_option maxHeartbeats 4000000 in
theorem of_any {w : World} {X : Nat → Prop} {G m nl : Nat} {l : List Drv} {K : Nat} {S : St} (hR : Reg w X G m nl l K S) (hnl : nl ≤ maxLen) (hK : K ≤ 200000) (hg : ∀ n, GoodC l (S n)) (h12 : (keysTo S 256).length ≤ 12) (s : ByteArray) :
    Calls Try.prog 27 #[.pointer (some ⟨G, 0, none⟩), .string s] w fun e w' => ∃ A, e = .returned (.slice A (ofS l S s (keysTo S 256)).length (ofS l S s (keysTo S 256)).length) ∧ Sl bdT w' (fun g => w.heap.size ≤ g ∧ g < w'.heap.size) A (ofS l S s (keysTo S 256)).length (ofS l S s (keysTo S 256)) ∧ Kept w w' := by
  obtain ⟨i2, hi2, hz20, hz21, hz22⟩ := info_parts info82
  have HR := hide hR
  obtain ⟨bd, f, hG, hD, hM, hL⟩ := hR
  have HM := hide hM
  have HL := hide hL
  have c1 := cell_heap hG (o := 1) rfl
  have hGl := heap_lt hG
  clear hM hL hD
  have hkm : ∀ n ∈ keysTo S 256, n < 256 := fun n hn => by simp [keysTo] at hn; exact hn.1
  have hki : keysI S = (keysTo S 256).map (fun k : Nat => (k : Int)) := rfl
  have Hol := hide (ofS_len (l := l) hg s (keysTo S 256))
  have Htl := hide (fun k => ofS_take_len (l := l) hg s (keysTo S 256) k h12)
  have hsrt := fun (W : World) (Bm : Nat) (hk : Kept w W) hb hc => sorted43 (Bm := Bm) (HM.out.keep hk) (fun n hn => (HL.out n hn).grown (grown_of_kept hk none) (fun b e => by cases e)) hK hb hc h12
  generalize hks : keysTo S 256 = ks at *
  have Hks := hide hks
  have Hki := hide hki
  have Hkm := hide hkm
  clear hks hki hkm
  go_enter Try.func27, Try.ntmps27
  go_upto_region 4 with (first
    | (go_at_call 39; refine (some_any G m _ _ hG).mono ?_; rintro e w1 ⟨rfl, rfl⟩))
  go_upto_region 5 with (first
    | (go_at_call 44; refine (keys44 m _).mono ?_; rintro e w1 ⟨rfl, rfl⟩)
    | (go_at_call 43; refine (hsrt _ _ (by go_grown) (by simp) (cell_heap (heap_at _ rfl) rfl)).mono ?_; rintro e w2 ⟨A2, c2, rfl, hq1, hq2, hsl2, hk2⟩))
  have hkw2 : Kept w w2 := Below.trans (by go_grown) (hk2.mono (by simp only [World.size_alloc]; omega))
  generalize hkn : ks.length = kn at *
  have Hkn := hide hkn
  clear hkn hsrt hk2
  obtain ⟨W, rfl⟩ : ∃ W, W = w2 := ⟨_, rfl⟩
  go_loopg [5, 19] kn (fun g s5 s19 wr => ∃ k : Nat, k + g = kn ∧ s19 = .int .i64 k ∧ Own bdT 82 W.heap.size wr s5 (ofS l S s (ks.take k)).length (ofS l S s (ks.take k)) ∧ Kept W wr)
  case atStart => exact ⟨0, by omega, rfl, Own.nil _ _ _ _, Below.refl _ _⟩
  case round =>
    obtain ⟨k, hk, rfl, hown, hkw⟩ := hrel
    have Hk := hide hk
    clear hk
    by_cases hlt : k < kn
    · obtain ⟨x, b, off, hx, rfl, hb, hbr, e1⟩ := u8k_at hsl2 hkw hlt
      have hlt' : (k : Int) < (kn : Int) := by omega
      have hk0 : (0 : Int) ≤ (k : Int) := by omega
      rw [Hki.out, List.getElem?_map, Option.map_eq_some_iff] at hx
      obtain ⟨n, hn, rfl⟩ := hx
      have hn256 := Hkm.out n (List.mem_of_getElem? hn)
      have Hof := hide (ofS_take (l := l) (S := S) (s := s) hn)
      clear hn
      have hkwr : Kept w wr := hkw2.trans' hkw
      have hRr := hide (HR.out.kept hkwr)
      have Hgn := hide (hg n)
      have hbl := bindS_len (n := (n : Int)) (hg n)
      have hgn := hg n
      have htl := Htl.out k
      have Hown := hide hown
      clear hown
      generalize hpre : ofS l S s (ks.take k) = pre at *
      generalize hnx : ofS l S s (ks.take (k + 1)) = nxt at *
      have Hpre := hide hpre
      have Hnx := hide hnx
      clear hpre hnx
      go_upto_region 8 with (go_at_call 26; refine (bound_any hRr.out hnl n hn256 (by exact hgn)).mono ?_; rintro e w3 ⟨A3, rfl, hsl3, hk3⟩)
      generalize hbs : bindS l (n : Int) (S n) = bs at *
      have Hbs := hide hbs
      clear hbs
      have hl3 := hide hsl3.1
      have hsl3' := hide hsl3
      have hown3 := hide (Hown.out.kept hk3)
      have hk03 : Kept W w3 := hkw.trans' hk3
      have hlow3 := hide (show ∀ g : Nat, u5.ownBlock = some g → g < wr.heap.size from fun g hg => (Hown.out.lt hg).2)
      have hN3 := hk3.size
      have hNW := hkw.size
      generalize wr.heap.size = N3 at *
      clear hsl3 e1 Hown hk3
      generalize hbn : bs.length = bn at *
      have Hbn := hide hbn
      clear hbn
      obtain ⟨go, rfl⟩ : ∃ g : Nat, g = gk := ⟨_, rfl⟩
      go_loopg [5, 27] bn (fun g s5 s27 wr => ∃ j : Nat, j + g = bn ∧ s27 = .int .i64 j ∧ Own bdT 82 W.heap.size wr s5 (pre ++ (bs.take j).filter (fun b => sameB b.d s)).length (pre ++ (bs.take j).filter (fun b => sameB b.d s)) ∧ Kept W wr ∧ w3.heap.size ≤ wr.heap.size ∧ Hid (∀ b, N3 ≤ b → b < w3.heap.size → wr.heap[b]? = w3.heap[b]?) ∧ Hid (∀ g, s5.ownBlock = some g → g < N3 ∨ w3.heap.size ≤ g))
      case atStart => exact ⟨0, by omega, rfl, by simpa using hown3.out, hk03, Nat.le_refl _, hide (fun _ _ _ => rfl), hide (fun g hg => .inl (hlow3.out g hg))⟩
      case round =>
        clear hown3 hlow3
        obtain ⟨j, hj, rfl, hown, hkWr, h3r, hbl3, hob⟩ := hrel
        have Hj := hide hj
        clear hj
        have hslr : Sl bdT wr (low wr.heap.size) A3 bn bs := hsl3'.out.keep (fun b hb => Nat.lt_of_lt_of_le hb.2 h3r) (fun b o hb => World.cell?_of_block (a := ⟨b, o, none⟩) (hbl3.out b hb.1 hb.2))
        by_cases hlj : j < bn
        · obtain ⟨y, b2, off2, hy, rfl, hb2, hb2r, hyl, y0, y1, y2⟩ := bd_at hslr (Below.refl _ wr) hlj
          clear hslr
          have hlj' : (j : Int) < (bn : Int) := by omega
          have hj0 : (0 : Int) ≤ (j : Int) := by omega
          have hfl : (pre ++ (bs.take j).filter (fun b => sameB b.d s)).length ≤ 65 := by
            rw [List.length_append]
            have h1 := List.length_filter_le (fun b : Bind => sameB b.d s) (bs.take j)
            rw [List.length_take] at h1
            omega
          have Hown := hide hown
          clear hown
          by_cases hsy : sameB y.d s = true
          · have Hf := hide (filter_yes (s := s) hy hsy)
            have hsy' : (y.d.toList == s.toList) = true := (sameL _ _).trans hsy
            clear hy
            generalize hout : pre ++ (bs.take j).filter (fun b => sameB b.d s) = out at *
            have Hout := hide hout
            clear hout
            go_wp2_with (at_builtin; go_loud (refine wpList_append_el (T := bdT) rfl (.tmp 35) (.tmp 37) 73 rfl W.heap.size 82 i2 _ 32 Try.underlying73 hi2 hz20 hz21 hz22 rfl (by decide) _ out.length out (by rfl) ((Hown.out.alloc _).alloc _) (wr.heap.size + 1) _ _ y (by rfl) (heap_at _ (by simp)) ⟨rfl, hyl⟩ (by simp [Value.oneCell']) (by unfold maxLen; omega) (by omega) (by have := hkWr.size; simp; omega) ?_); intro g cap w4 hown4 hg4 hb4 hat4 hlt4)
            go_roundg (gk - 1)
            case measure => have := Hj.out; omega
            case rel => exact ⟨j + 1, by have := Hj.out; omega, by go_num, by rw [Hf.out, ← List.append_assoc, Hout.out, List.length_append]; exact hown4, Below.trans ((Below.alloc hkWr hkWr.size _).alloc (by have := hkWr.size; simp; omega) _) hb4, by have := hg4.size; simp at this; omega, hide (fun b h1 h2 => by
              have hne : some b ≠ u5.ownBlock := fun e => by rcases hob.out b e.symm with h | h <;> omega
              rw [hg4.block b (by simp; omega) hne, heap_old (by simp; omega), heap_old (by omega)]
              exact hbl3.out b h1 h2), hide (fun g' hg' => by
              have e : g' = g := by simpa [Value.ownBlock] using hg'.symm
              rcases hat4 with h | h
              · rw [e]; exact hob.out g h
              · rw [e, h]; simp; omega)⟩
          · have Hf := hide (filter_no (s := s) hy hsy)
            have hsy' : (y.d.toList == s.toList) = false := (sameL _ _).trans (by simpa using hsy)
            clear hy
            generalize hout : pre ++ (bs.take j).filter (fun b => sameB b.d s) = out at *
            have Hout := hide hout
            clear hout
            go_wp2_with fail
            go_roundg (gk - 1)
            case measure => have := Hj.out; omega
            case rel => exact ⟨j + 1, by have := Hj.out; omega, by go_num, by rw [Hf.out, Hout.out]; exact Hown.out.alloc _, Below.alloc hkWr hkWr.size _, by simp; omega, hide (fun b h1 h2 => by rw [heap_old (by omega)]; exact hbl3.out b h1 h2), hob⟩
        · have hjn : j = bn := by have := Hj.out; omega
          have hlj' : (bn : Int) ≤ (j : Int) := by omega
          have hall : bs.take j = bs := by rw [hjn, ← Hbn.out, List.take_length]
          rw [hall, ← Hof.out] at hown
          clear hall
          have Hown := hide hown
          clear hown
          go_wp2_with fail
          go_roundg (go - 1)
          case measure => have := Hk.out; omega
          case rel => exact ⟨k + 1, by have := Hk.out; omega, by go_num, by rw [Hnx.out]; exact Hown.out, hkWr⟩
    · have hkn : k = kn := by have := Hk.out; omega
      have hlt' : (kn : Int) ≤ (k : Int) := by omega
      have hall : ks.take k = ks := by rw [hkn, ← Hkn.out, List.take_length]
      rw [hall] at hown
      clear hall
      obtain ⟨A5, c5, rfl, h51, h52⟩ := hown.isSlice
      have HS := hide (own_bind_new hown)
      clear hown
      have hN := hide (show (ofS l S s ks).length = (ofS l S s ks).length from rfl)
      go_wp2_with (go_at_call 42; refine (clip42 A5 _ c5 h51 h52 _).mono ?_; rintro e w1 ⟨rfl, rfl⟩)
      go_ret
      exact ⟨A5, rfl, HS.out.keep (fun b hb => ⟨Nat.le_trans hkw2.size hb.1, hb.2⟩) (fun _ _ _ => rfl), hkw2.trans' hkw⟩
end Go.Proofs.Ytgkhenplbljbbaa
