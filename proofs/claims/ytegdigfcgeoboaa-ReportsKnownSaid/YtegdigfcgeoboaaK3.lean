/- The law of the chapter on reports, part 3: Sb Rb. -/
import Derived.Test.YtegdigfcgeoboaaK2
set_option maxHeartbeats 16000000
set_option linter.unusedVariables false
set_option linter.unusedSimpArgs false
set_option linter.unusedSectionVars false
namespace Go.Proofs.Ytegdigfcgeoboaa
open Go.RowKit
attribute [local go_sem ↓] Go.wp_at_zero Go.wp_at_succ
theorem info5 : (Try.prog.info? 5).map (fun i => (i.zero, i.size, i.bytes)) = some (some (.int .u8 0), 1, 1) := by kernel_rfl
theorem info29 : (Try.prog.info? 29).map (fun i => (i.zero, i.size, i.bytes)) = some (some (.agg #[.int .u8 0, .int .u8 0, .int .i64 0, .int .u32 0]), 4, 24) := by kernel_rfl
theorem info_parts {t : TypeId} {z : Option Value} {s b : Nat} (h : (Try.prog.info? t).map (fun i => (i.zero, i.size, i.bytes)) = some (z, s, b)) : ∃ i, Try.prog.info? t = some i ∧ i.zero = z ∧ i.size = s ∧ i.bytes = b := by
 cases hi : Try.prog.info? t with
 | none => rw [hi] at h; cases h
 | some i => rw [hi] at h; simp at h; exact ⟨i, rfl, h.1, h.2.1, h.2.2⟩
theorem it_at {w w' : World} {B n k : Nat} {A : Option Addr} {l : List It} (h : Sl itT w (low B) A n l) (hb : Below B w w') (hk : k < n) : ∃ x b off, l[k]? = some x ∧ A = some ⟨b, off, none⟩ ∧ b < B ∧ b < w'.heap.size ∧ x.ok ∧
  w'.cell? ⟨b, off + k * 4, none⟩ = some (.int .u8 x.ty) ∧ w'.cell? ⟨b, off + k * 4 + 1, none⟩ = some (.int .u8 x.tg) ∧ w'.cell? ⟨b, off + k * 4 + 2, none⟩ = some (.int .i64 x.size) ∧ w'.cell? ⟨b, off + k * 4 + 3, none⟩ = some (.int .u32 x.data) := by
 obtain ⟨x, b, off, cs, hx, hA, hbb, ⟨rfl, h1⟩, hc⟩ := h.at hk
 have hc' := range_below hc hb hbb
 exact ⟨x, b, off, hx, hA, hbb, World.block_lt_of_cell? w' _ (hc' 0 _ rfl), h1, hc' 0 _ rfl, hc' 1 _ rfl, hc' 2 _ rfl, hc' 3 _ rfl⟩
theorem Sl.its {w : World} {F : Nat → Prop} {A : Option Addr} {n : Nat} {l : List It} (h : Sl itT w F A n l) : ∀ x ∈ l, x.ok := by
 intro x hx
 obtain ⟨i, hi, e⟩ := List.getElem_of_mem hx
 obtain ⟨b, off, cs, _, _, ⟨_, h1⟩, _⟩ := h.2 i x (by rw [List.getElem?_eq_getElem hi, e])
 exact h1
def joinE (l : List It) : Int := if l.all It.wide then (if 4096 < (joinB l).length then 3 else 0) else 4
theorem bytes_len {x : It} (h : x.wide = true) (hok : x.ok) : x.bytes.length = x.size.toNat + 1 ∧ x.bytes.length ≤ 5 := by
 obtain ⟨_, _, _, _, h5⟩ := wide_iff h hok
 unfold It.bytes
 simp
 rcases h5 with ⟨e, _⟩ | ⟨e, _⟩ | ⟨e, _⟩ | e <;> rw [e] <;> decide
theorem joinB_len : ∀ (l : List It), (∀ x ∈ l, x.wide = true ∧ x.ok) → (joinB l).length ≤ 5 * l.length
 | [], _ => Nat.le_refl _
 | x :: l, h => by
  have e : joinB (x :: l) = x.bytes ++ joinB l := by simp [joinB]
  have h1 := (bytes_len (h x List.mem_cons_self).1 (h x List.mem_cons_self).2).2
  have h2 := joinB_len l (fun y hy => h y (List.mem_cons_of_mem _ hy))
  rw [e, List.length_append, List.length_cons]
  omega
theorem notwide {x : It} (hok : x.ok) (h : ¬ x.wide = true) : 2 < x.ty ∨ (x.ty ≤ 2 ∧ 15 < x.tg) ∨ (x.ty ≤ 2 ∧ x.tg ≤ 15 ∧ x.size < 0) ∨ (x.ty ≤ 2 ∧ x.tg ≤ 15 ∧ 4 < x.size) ∨ (x.ty ≤ 2 ∧ x.tg ≤ 15 ∧ x.size = 3) ∨
  (x.ty ≤ 2 ∧ x.tg ≤ 15 ∧ x.size = 0 ∧ 0 < x.data) ∨ (x.ty ≤ 2 ∧ x.tg ≤ 15 ∧ x.size = 1 ∧ 256 ≤ x.data) ∨ (x.ty ≤ 2 ∧ x.tg ≤ 15 ∧ x.size = 2 ∧ 65536 ≤ x.data) := by
 obtain ⟨_, _, _, h4⟩ := hok
 unfold u32k at h4
 unfold It.wide at h
 simp only [Bool.and_eq_true, Bool.or_eq_true, decide_eq_true_eq, beq_iff_eq] at h
 omega
theorem bytes_all {x : It} (h : x.wide = true) (hok : x.ok) {s : Nat} (e : x.size = s) : x.bytes = headI x :: (List.range s).map (byteI x.data) := by
 unfold It.bytes; rw [e, Int.toNat_natCast]
theorem range_map_snoc (f : Nat → Int) (k : Nat) : (List.range (k + 1)).map f = (List.range k).map f ++ [f k] := by rw [List.range_succ, List.map_append]; rfl
set_option maxRecDepth 100000 in
theorem join_any (A : Option Addr) (n c : Nat) (l : List It) (w : World) (hn : n ≤ 100000) (hl : Sl itT w (low w.heap.size) A n l) :
  Calls Try.prog 11 #[.slice A n c] w fun e w' => (joinE l ≠ 0 ∧ e = .returned (.tuple #[.slice none 0 0, .int .i64 (joinE l)]) ∧ Kept w w') ∨
   (joinE l = 0 ∧ ∃ A', e = .returned (.tuple #[.slice A' (joinB l).length (joinB l).length, .int .i64 (0)]) ∧ Sl u8T w' (fun b => w.heap.size ≤ b ∧ b < w'.heap.size) A' (joinB l).length (joinB l) ∧ Kept w w') := by
 obtain ⟨i5, hi5, hz50, hz51, hz52⟩ := info_parts info5
 have hll := hide hl.1
 have hits := hide hl.its
 go_enter Try.func11, Try.ntmps11
 go_wp2_with fail
 go_loopg [4, 10] n (fun g s4 tM wr => ∃ k : Nat, k + g = n ∧ tM = .int .i64 k ∧ Hid (∀ x ∈ l.take k, x.wide = true) ∧ Own u8T 5 w.heap.size wr s4 (joinB (l.take k)).length (joinB (l.take k)) ∧ Kept w wr)
 case atStart => exact ⟨0, by omega, rfl, hide (fun x hx => by cases hx), Own.nil _ _ _ _, Below.refl _ _⟩
 case round =>
  obtain ⟨k, hk, rfl, Hw, hown, hkw⟩ := hrel
  have Hk := hide hk
  clear hk
  by_cases hlt : k < n
  ·obtain ⟨x, b, off, hx, rfl, hb, hbr, hxok, e0, e1, e2, e3⟩ := it_at hl hkw hlt
   have hlt' : (k : Int) < (n : Int) := by omega
   have hk0 : (0 : Int) ≤ (k : Int) := by omega
   have Hx := hide hx
   have Hxok := hide hxok
   go_upto_region 5 with (fail)
   refine wp_at (fun W => W.heap[wr.heap.size]? = some (.cells #[.int .u8 x.ty, .int .u8 x.tg, .int .i64 x.size, .int .u32 x.data] 29 (0, 0)) ∧ Kept wr W) ⟨heap_at _ rfl, by go_grown⟩ (fun W hW => ?_)
   obtain ⟨HX, hkW⟩ := hW
   have hown2 := hide (hown.kept hkW)
   have hkw2 := hide (hkw.trans' hkW)
   clear e0 e1 e2 e3 hx hkw hkW
   have hXo := hide (show ∀ g : Nat, u4.ownBlock = some g → g ≠ wr.heap.size from fun g hg => by have := (hown.lt hg).2; omega)
   clear hown
   generalize wr.heap.size = XX at *
   have x0 := cell_heap HX (o := 0) rfl
   have x1 := cell_heap HX (o := 1) rfl
   have x2 := cell_heap HX (o := 2) rfl
   have x3 := cell_heap HX (o := 3) rfl
   have hxl := heap_lt HX
   have hnX : Hid (∀ g : Nat, u4.ownBlock = some g → g ≠ XX) := hXo
   have HX' := hide HX
   clear HX hXo
   by_cases hwd : x.wide = true
   ·obtain ⟨q1, q2, q3, q4, q5⟩ := wide_iff hwd hxok
    have hd := hxok.2.2.2
    unfold u32k at hd
    have Hsn := hide (show joinB (l.take (k + 1)) = joinB (l.take k) ++ x.bytes by
     obtain ⟨h1, h2⟩ := List.getElem?_eq_some_iff.1 Hx.out
     rw [List.take_succ_eq_append_getElem h1, h2, joinB_snoc])
    have Hw2 := hide (show ∀ y ∈ l.take (k + 1), y.wide = true from fun y hy => by
     obtain ⟨h1, h2⟩ := List.getElem?_eq_some_iff.1 Hx.out
     rw [List.take_succ_eq_append_getElem h1, h2] at hy
     rcases List.mem_append.1 hy with h | h
     ·exact Hw.out y h
     ·rw [List.mem_singleton.1 h]; exact hwd)
    have hjl := Nat.le_trans (joinB_len (l.take k) (fun y hy => ⟨Hw.out y hy, hits.out y (List.mem_of_mem_take hy)⟩)) (show 5 * (l.take k).length ≤ 500000 by rw [List.length_take]; omega)
    generalize hpre : joinB (l.take k) = pre at *
    have Hpre := hide hpre
    clear hpre
    have m1 : IntKind.u8.wrap (x.tg * 16) = x.tg * 16 := by rw [IntKind.wrap_u8]; omega
    have m2 : IntKind.u8.wrap (x.ty * 4) = x.ty * 4 := by rw [IntKind.wrap_u8]; omega
    have m3 : IntKind.u8.wrap (x.tg * 16 + x.ty * 4) = x.tg * 16 + x.ty * 4 := by rw [IntKind.wrap_u8]; omega
    have m4 : IntKind.u8.wrap (x.tg * 16 + x.ty * 4 + 1) = x.tg * 16 + x.ty * 4 + 1 := by rw [IntKind.wrap_u8]; omega
    have m5 : IntKind.u8.wrap (x.tg * 16 + x.ty * 4 + 2) = x.tg * 16 + x.ty * 4 + 2 := by rw [IntKind.wrap_u8]; omega
    have m6 : IntKind.u8.wrap (x.tg * 16 + x.ty * 4 + 3) = x.tg * 16 + x.ty * 4 + 3 := by rw [IntKind.wrap_u8]; omega
    have hkws := hkw2.out.size
    have r0 : IntKind.u8.wrap x.data = byteI x.data 0 := by rw [IntKind.wrap_u8]; unfold byteI; simp
    have r1 : IntKind.u8.wrap (x.data / 256) = byteI x.data 1 := by rw [IntKind.wrap_u8]; rfl
    have r2 : IntKind.u8.wrap (x.data / 65536) = byteI x.data 2 := by rw [IntKind.wrap_u8]; rfl
    have r3 : IntKind.u8.wrap (x.data / 16777216) = byteI x.data 3 := by rw [IntKind.wrap_u8]; rfl
    rcases q5 with ⟨e, q⟩ | ⟨e, q⟩ | ⟨e, q⟩ | e
    ·rw [e] at x2
     have hq : (x.data != 0) = false := by simp; omega
     go_upto_region 8 with (at_builtin; refine wpList_append_el (T := u8T) rfl (.tmp 51) (.tmp 64) 23 rfl w.heap.size 5 i5 _ 1 Try.underlying23 hi5 hz50 hz51 hz52 rfl (by decide) _ pre.length pre (by rfl) (hown2.out.alloc _) _ _ _ (headI x) (by rfl) (heap_at _ rfl) ⟨by simp [headI, e], (head_of hwd Hxok.out).1⟩ (by simp [Value.oneCell']) (by unfold maxLen; omega) (by omega) (by simp; omega) ?_; intro g cap w4 hown4 hg4 hb4 hat4 hlt4)
     have HX4 := (hg4.block XX (by simp; omega) (fun e => hnX.out XX e.symm rfl)).trans ((Below.heap_alloc _ _ XX hxl).trans HX'.out)
     have hX4 : ∀ h : Nat, (Value.slice (some ⟨g, 0, none⟩) (pre.length + 1) cap).ownBlock = some h → h ≠ XX := by
      intro h hh
      have e' : h = g := by simpa [Value.ownBlock] using hh.symm
      rcases hat4 with h1 | h1
      ·rw [e']; exact hnX.out g h1
      ·rw [e', h1]; simp; omega
     have hk4 : Kept w w4 := Below.trans (Below.alloc hkw2.out hkws _) hb4
     have hs4 := hk4.size
     rw [e] at HX4
     clear x0 x1 x2 x3 hxl hg4 hat4 hb4 hnX HX' hown2 hkw2 hlt4
     have x2 := cell_heap HX4 (o := 2) rfl
     have hxl := heap_lt HX4
     go_wp2_with fail
     clear hd q hq
     obtain ⟨go, rfl⟩ : ∃ g : Nat, g = gk := ⟨_, rfl⟩
     generalize (Value.slice (some ⟨g, 0, none⟩) (pre.length + 1) cap) = v4 at *
     go_loopg [4, 68] 0 (fun g s4 oD wr => ∃ j : Nat, j + g = 0 ∧ oD = .int .i64 j ∧ Own u8T 5 w.heap.size wr s4 (pre.length + 1 + j) (pre ++ [headI x] ++ (List.range j).map (byteI x.data)) ∧ Kept w wr ∧ wr.heap[XX]? = some (.cells #[.int .u8 x.ty, .int .u8 x.tg, .int .i64 0, .int .u32 x.data] 29 (0, 0)) ∧ Hid (∀ h : Nat, s4.ownBlock = some h → h ≠ XX))
     case atStart => exact ⟨0, by omega, rfl, by simpa using hown4, hk4, HX4, hide hX4⟩
     case round =>
      clear hown4 hk4 HX4 hX4 hs4 x2 hxl
      obtain ⟨j, hj, rfl, hown, hkj, HXj, hoX⟩ := hrel
      have x3 := cell_heap HXj (o := 3) rfl
      have hxl := heap_lt HXj
      have hkjs := hkj.size
      obtain rfl : j = 0 := by omega
      have hfin := hide hown
      clear hown
      go_wp2_with fail
      go_roundg (go - 1)
      case measure => have := Hk.out; omega
      case rel => exact ⟨k + 1, by have := Hk.out; omega, by go_num, Hw2, by rw [Hsn.out, bytes_all hwd Hxok.out (s := 0) e]; have h := hfin.out; rw [List.append_assoc] at h; rw [show (pre ++ (headI x :: (List.range 0).map (byteI x.data))).length = pre.length + 1 + 0 by simp only [List.length_append, List.length_cons, List.length_map, List.length_range]; first | done | omega]; exact h, hkj⟩
    ·rw [e] at x2
     have hq : x.data / 256 = 0 := by omega
     go_upto_region 8 with (at_builtin; refine wpList_append_el (T := u8T) rfl (.tmp 51) (.tmp 64) 23 rfl w.heap.size 5 i5 _ 1 Try.underlying23 hi5 hz50 hz51 hz52 rfl (by decide) _ pre.length pre (by rfl) (hown2.out.alloc _) _ _ _ (headI x) (by rfl) (heap_at _ rfl) ⟨by simp [headI, e], (head_of hwd Hxok.out).1⟩ (by simp [Value.oneCell']) (by unfold maxLen; omega) (by omega) (by simp; omega) ?_; intro g cap w4 hown4 hg4 hb4 hat4 hlt4)
     have HX4 := (hg4.block XX (by simp; omega) (fun e => hnX.out XX e.symm rfl)).trans ((Below.heap_alloc _ _ XX hxl).trans HX'.out)
     have hX4 : ∀ h : Nat, (Value.slice (some ⟨g, 0, none⟩) (pre.length + 1) cap).ownBlock = some h → h ≠ XX := by
      intro h hh
      have e' : h = g := by simpa [Value.ownBlock] using hh.symm
      rcases hat4 with h1 | h1
      ·rw [e']; exact hnX.out g h1
      ·rw [e', h1]; simp; omega
     have hk4 : Kept w w4 := Below.trans (Below.alloc hkw2.out hkws _) hb4
     have hs4 := hk4.size
     rw [e] at HX4
     clear x0 x1 x2 x3 hxl hg4 hat4 hb4 hnX HX' hown2 hkw2 hlt4
     have x2 := cell_heap HX4 (o := 2) rfl
     have hxl := heap_lt HX4
     go_wp2_with fail
     clear hd q hq
     obtain ⟨go, rfl⟩ : ∃ g : Nat, g = gk := ⟨_, rfl⟩
     generalize (Value.slice (some ⟨g, 0, none⟩) (pre.length + 1) cap) = v4 at *
     go_loopg [4, 68] 1 (fun g s4 oD wr => ∃ j : Nat, j + g = 1 ∧ oD = .int .i64 j ∧ Own u8T 5 w.heap.size wr s4 (pre.length + 1 + j) (pre ++ [headI x] ++ (List.range j).map (byteI x.data)) ∧ Kept w wr ∧ wr.heap[XX]? = some (.cells #[.int .u8 x.ty, .int .u8 x.tg, .int .i64 1, .int .u32 x.data] 29 (0, 0)) ∧ Hid (∀ h : Nat, s4.ownBlock = some h → h ≠ XX))
     case atStart => exact ⟨0, by omega, rfl, by simpa using hown4, hk4, HX4, hide hX4⟩
     case round =>
      clear hown4 hk4 HX4 hX4 hs4 x2 hxl
      obtain ⟨j, hj, rfl, hown, hkj, HXj, hoX⟩ := hrel
      have x3 := cell_heap HXj (o := 3) rfl
      have hxl := heap_lt HXj
      have hkjs := hkj.size
      by_cases hjs : j = 1
      ·subst hjs
       have hfin := hide hown
       clear hown
       go_wp2_with fail
       go_roundg (go - 1)
       case measure => have := Hk.out; omega
       case rel => exact ⟨k + 1, by have := Hk.out; omega, by go_num, Hw2, by rw [Hsn.out, bytes_all hwd Hxok.out (s := 1) e]; have h := hfin.out; rw [List.append_assoc] at h; rw [show (pre ++ (headI x :: (List.range 1).map (byteI x.data))).length = pre.length + 1 + 1 by simp only [List.length_append, List.length_cons, List.length_map, List.length_range]; first | done | omega]; exact h, hkj⟩
      ·obtain rfl : j = 0 := by omega
       skip
       go_wp2_with (at_builtin; refine wpList_append_el (T := u8T) rfl (.tmp 71) (.tmp 78) 23 rfl w.heap.size 5 i5 _ 1 Try.underlying23 hi5 hz50 hz51 hz52 rfl (by decide) _ _ _ (by rfl) (hown.alloc _) _ _ _ (byteI x.data 0) (by rfl) (heap_at _ rfl) ⟨rfl, byteI_u8 _ _⟩ (by simp [Value.oneCell']) (by unfold maxLen; omega) (by omega) (by simp; omega) ?_; intro g cap w5 hown5 hg5 hb5 hat5 hlt5)
       have HX5 := (hg5.block XX (by simp; omega) (fun e => hoX.out XX e.symm rfl)).trans ((Below.heap_alloc _ _ XX hxl).trans HXj)
       have hX5 : ∀ h : Nat, (Value.slice (some ⟨g, 0, none⟩) (pre.length + 1 + 0 + 1) cap).ownBlock = some h → h ≠ XX := by
        intro h hh
        have e' : h = g := by simpa [Value.ownBlock] using hh.symm
        rcases hat5 with h1 | h1
        ·rw [e']; exact hoX.out g h1
        ·rw [e', h1]; simp; omega
       have hk5 : Kept w w5 := Below.trans (Below.alloc hkj hkjs _) hb5
       go_roundg (gk - 1)
       case measure => omega
       case rel => exact ⟨0 + 1, by omega, by go_num, by rw [range_map_snoc, ← List.append_assoc]; exact hown5, hk5, HX5, hide hX5⟩
    ·rw [e] at x2
     have hq : x.data / 65536 = 0 := by omega
     go_upto_region 8 with (at_builtin; refine wpList_append_el (T := u8T) rfl (.tmp 51) (.tmp 64) 23 rfl w.heap.size 5 i5 _ 1 Try.underlying23 hi5 hz50 hz51 hz52 rfl (by decide) _ pre.length pre (by rfl) (hown2.out.alloc _) _ _ _ (headI x) (by rfl) (heap_at _ rfl) ⟨by simp [headI, e], (head_of hwd Hxok.out).1⟩ (by simp [Value.oneCell']) (by unfold maxLen; omega) (by omega) (by simp; omega) ?_; intro g cap w4 hown4 hg4 hb4 hat4 hlt4)
     have HX4 := (hg4.block XX (by simp; omega) (fun e => hnX.out XX e.symm rfl)).trans ((Below.heap_alloc _ _ XX hxl).trans HX'.out)
     have hX4 : ∀ h : Nat, (Value.slice (some ⟨g, 0, none⟩) (pre.length + 1) cap).ownBlock = some h → h ≠ XX := by
      intro h hh
      have e' : h = g := by simpa [Value.ownBlock] using hh.symm
      rcases hat4 with h1 | h1
      ·rw [e']; exact hnX.out g h1
      ·rw [e', h1]; simp; omega
     have hk4 : Kept w w4 := Below.trans (Below.alloc hkw2.out hkws _) hb4
     have hs4 := hk4.size
     rw [e] at HX4
     clear x0 x1 x2 x3 hxl hg4 hat4 hb4 hnX HX' hown2 hkw2 hlt4
     have x2 := cell_heap HX4 (o := 2) rfl
     have hxl := heap_lt HX4
     go_wp2_with fail
     clear hd q hq
     obtain ⟨go, rfl⟩ : ∃ g : Nat, g = gk := ⟨_, rfl⟩
     generalize (Value.slice (some ⟨g, 0, none⟩) (pre.length + 1) cap) = v4 at *
     go_loopg [4, 68] 2 (fun g s4 oD wr => ∃ j : Nat, j + g = 2 ∧ oD = .int .i64 j ∧ Own u8T 5 w.heap.size wr s4 (pre.length + 1 + j) (pre ++ [headI x] ++ (List.range j).map (byteI x.data)) ∧ Kept w wr ∧ wr.heap[XX]? = some (.cells #[.int .u8 x.ty, .int .u8 x.tg, .int .i64 2, .int .u32 x.data] 29 (0, 0)) ∧ Hid (∀ h : Nat, s4.ownBlock = some h → h ≠ XX))
     case atStart => exact ⟨0, by omega, rfl, by simpa using hown4, hk4, HX4, hide hX4⟩
     case round =>
      clear hown4 hk4 HX4 hX4 hs4 x2 hxl
      obtain ⟨j, hj, rfl, hown, hkj, HXj, hoX⟩ := hrel
      have x3 := cell_heap HXj (o := 3) rfl
      have hxl := heap_lt HXj
      have hkjs := hkj.size
      by_cases hjs : j = 2
      ·subst hjs
       have hfin := hide hown
       clear hown
       go_wp2_with fail
       go_roundg (go - 1)
       case measure => have := Hk.out; omega
       case rel => exact ⟨k + 1, by have := Hk.out; omega, by go_num, Hw2, by rw [Hsn.out, bytes_all hwd Hxok.out (s := 2) e]; have h := hfin.out; rw [List.append_assoc] at h; rw [show (pre ++ (headI x :: (List.range 2).map (byteI x.data))).length = pre.length + 1 + 2 by simp only [List.length_append, List.length_cons, List.length_map, List.length_range]; first | done | omega]; exact h, hkj⟩
      ·rcases (by omega : j = 0 ∨ j = 1) with rfl | rfl
       ·skip
        skip
        go_wp2_with (at_builtin; refine wpList_append_el (T := u8T) rfl (.tmp 71) (.tmp 78) 23 rfl w.heap.size 5 i5 _ 1 Try.underlying23 hi5 hz50 hz51 hz52 rfl (by decide) _ _ _ (by rfl) (hown.alloc _) _ _ _ (byteI x.data 0) (by rfl) (heap_at _ rfl) ⟨rfl, byteI_u8 _ _⟩ (by simp [Value.oneCell']) (by unfold maxLen; omega) (by omega) (by simp; omega) ?_; intro g cap w5 hown5 hg5 hb5 hat5 hlt5)
        have HX5 := (hg5.block XX (by simp; omega) (fun e => hoX.out XX e.symm rfl)).trans ((Below.heap_alloc _ _ XX hxl).trans HXj)
        have hX5 : ∀ h : Nat, (Value.slice (some ⟨g, 0, none⟩) (pre.length + 1 + 0 + 1) cap).ownBlock = some h → h ≠ XX := by
         intro h hh
         have e' : h = g := by simpa [Value.ownBlock] using hh.symm
         rcases hat5 with h1 | h1
         ·rw [e']; exact hoX.out g h1
         ·rw [e', h1]; simp; omega
        have hk5 : Kept w w5 := Below.trans (Below.alloc hkj hkjs _) hb5
        go_roundg (gk - 1)
        case measure => omega
        case rel => exact ⟨0 + 1, by omega, by go_num, by rw [range_map_snoc, ← List.append_assoc]; exact hown5, hk5, HX5, hide hX5⟩
       ·skip
        skip
        go_wp2_with (at_builtin; refine wpList_append_el (T := u8T) rfl (.tmp 71) (.tmp 78) 23 rfl w.heap.size 5 i5 _ 1 Try.underlying23 hi5 hz50 hz51 hz52 rfl (by decide) _ _ _ (by rfl) (hown.alloc _) _ _ _ (byteI x.data 1) (by rfl) (heap_at _ rfl) ⟨rfl, byteI_u8 _ _⟩ (by simp [Value.oneCell']) (by unfold maxLen; omega) (by omega) (by simp; omega) ?_; intro g cap w5 hown5 hg5 hb5 hat5 hlt5)
        have HX5 := (hg5.block XX (by simp; omega) (fun e => hoX.out XX e.symm rfl)).trans ((Below.heap_alloc _ _ XX hxl).trans HXj)
        have hX5 : ∀ h : Nat, (Value.slice (some ⟨g, 0, none⟩) (pre.length + 1 + 1 + 1) cap).ownBlock = some h → h ≠ XX := by
         intro h hh
         have e' : h = g := by simpa [Value.ownBlock] using hh.symm
         rcases hat5 with h1 | h1
         ·rw [e']; exact hoX.out g h1
         ·rw [e', h1]; simp; omega
        have hk5 : Kept w w5 := Below.trans (Below.alloc hkj hkjs _) hb5
        go_roundg (gk - 1)
        case measure => omega
        case rel => exact ⟨1 + 1, by omega, by go_num, by rw [range_map_snoc, ← List.append_assoc]; exact hown5, hk5, HX5, hide hX5⟩
    ·rw [e] at x2
     have q : True := trivial
     have hq : True := trivial
     go_upto_region 8 with (at_builtin; refine wpList_append_el (T := u8T) rfl (.tmp 51) (.tmp 64) 23 rfl w.heap.size 5 i5 _ 1 Try.underlying23 hi5 hz50 hz51 hz52 rfl (by decide) _ pre.length pre (by rfl) (hown2.out.alloc _) _ _ _ (headI x) (by rfl) (heap_at _ rfl) ⟨by simp [headI, e], (head_of hwd Hxok.out).1⟩ (by simp [Value.oneCell']) (by unfold maxLen; omega) (by omega) (by simp; omega) ?_; intro g cap w4 hown4 hg4 hb4 hat4 hlt4)
     have HX4 := (hg4.block XX (by simp; omega) (fun e => hnX.out XX e.symm rfl)).trans ((Below.heap_alloc _ _ XX hxl).trans HX'.out)
     have hX4 : ∀ h : Nat, (Value.slice (some ⟨g, 0, none⟩) (pre.length + 1) cap).ownBlock = some h → h ≠ XX := by
      intro h hh
      have e' : h = g := by simpa [Value.ownBlock] using hh.symm
      rcases hat4 with h1 | h1
      ·rw [e']; exact hnX.out g h1
      ·rw [e', h1]; simp; omega
     have hk4 : Kept w w4 := Below.trans (Below.alloc hkw2.out hkws _) hb4
     have hs4 := hk4.size
     rw [e] at HX4
     clear x0 x1 x2 x3 hxl hg4 hat4 hb4 hnX HX' hown2 hkw2 hlt4
     have x2 := cell_heap HX4 (o := 2) rfl
     have hxl := heap_lt HX4
     go_wp2_with fail
     clear hd q hq
     obtain ⟨go, rfl⟩ : ∃ g : Nat, g = gk := ⟨_, rfl⟩
     generalize (Value.slice (some ⟨g, 0, none⟩) (pre.length + 1) cap) = v4 at *
     go_loopg [4, 68] 4 (fun g s4 oD wr => ∃ j : Nat, j + g = 4 ∧ oD = .int .i64 j ∧ Own u8T 5 w.heap.size wr s4 (pre.length + 1 + j) (pre ++ [headI x] ++ (List.range j).map (byteI x.data)) ∧ Kept w wr ∧ wr.heap[XX]? = some (.cells #[.int .u8 x.ty, .int .u8 x.tg, .int .i64 4, .int .u32 x.data] 29 (0, 0)) ∧ Hid (∀ h : Nat, s4.ownBlock = some h → h ≠ XX))
     case atStart => exact ⟨0, by omega, rfl, by simpa using hown4, hk4, HX4, hide hX4⟩
     case round =>
      clear hown4 hk4 HX4 hX4 hs4 x2 hxl
      obtain ⟨j, hj, rfl, hown, hkj, HXj, hoX⟩ := hrel
      have x3 := cell_heap HXj (o := 3) rfl
      have hxl := heap_lt HXj
      have hkjs := hkj.size
      by_cases hjs : j = 4
      ·subst hjs
       have hfin := hide hown
       clear hown
       go_wp2_with fail
       go_roundg (go - 1)
       case measure => have := Hk.out; omega
       case rel => exact ⟨k + 1, by have := Hk.out; omega, by go_num, Hw2, by rw [Hsn.out, bytes_all hwd Hxok.out (s := 4) e]; have h := hfin.out; rw [List.append_assoc] at h; rw [show (pre ++ (headI x :: (List.range 4).map (byteI x.data))).length = pre.length + 1 + 4 by simp only [List.length_append, List.length_cons, List.length_map, List.length_range]; first | done | omega]; exact h, hkj⟩
      ·rcases (by omega : j = 0 ∨ j = 1 ∨ j = 2 ∨ j = 3) with rfl | rfl | rfl | rfl
       ·skip
        skip
        go_wp2_with (at_builtin; refine wpList_append_el (T := u8T) rfl (.tmp 71) (.tmp 78) 23 rfl w.heap.size 5 i5 _ 1 Try.underlying23 hi5 hz50 hz51 hz52 rfl (by decide) _ _ _ (by rfl) (hown.alloc _) _ _ _ (byteI x.data 0) (by rfl) (heap_at _ rfl) ⟨rfl, byteI_u8 _ _⟩ (by simp [Value.oneCell']) (by unfold maxLen; omega) (by omega) (by simp; omega) ?_; intro g cap w5 hown5 hg5 hb5 hat5 hlt5)
        have HX5 := (hg5.block XX (by simp; omega) (fun e => hoX.out XX e.symm rfl)).trans ((Below.heap_alloc _ _ XX hxl).trans HXj)
        have hX5 : ∀ h : Nat, (Value.slice (some ⟨g, 0, none⟩) (pre.length + 1 + 0 + 1) cap).ownBlock = some h → h ≠ XX := by
         intro h hh
         have e' : h = g := by simpa [Value.ownBlock] using hh.symm
         rcases hat5 with h1 | h1
         ·rw [e']; exact hoX.out g h1
         ·rw [e', h1]; simp; omega
        have hk5 : Kept w w5 := Below.trans (Below.alloc hkj hkjs _) hb5
        go_roundg (gk - 1)
        case measure => omega
        case rel => exact ⟨0 + 1, by omega, by go_num, by rw [range_map_snoc, ← List.append_assoc]; exact hown5, hk5, HX5, hide hX5⟩
       ·skip
        skip
        go_wp2_with (at_builtin; refine wpList_append_el (T := u8T) rfl (.tmp 71) (.tmp 78) 23 rfl w.heap.size 5 i5 _ 1 Try.underlying23 hi5 hz50 hz51 hz52 rfl (by decide) _ _ _ (by rfl) (hown.alloc _) _ _ _ (byteI x.data 1) (by rfl) (heap_at _ rfl) ⟨rfl, byteI_u8 _ _⟩ (by simp [Value.oneCell']) (by unfold maxLen; omega) (by omega) (by simp; omega) ?_; intro g cap w5 hown5 hg5 hb5 hat5 hlt5)
        have HX5 := (hg5.block XX (by simp; omega) (fun e => hoX.out XX e.symm rfl)).trans ((Below.heap_alloc _ _ XX hxl).trans HXj)
        have hX5 : ∀ h : Nat, (Value.slice (some ⟨g, 0, none⟩) (pre.length + 1 + 1 + 1) cap).ownBlock = some h → h ≠ XX := by
         intro h hh
         have e' : h = g := by simpa [Value.ownBlock] using hh.symm
         rcases hat5 with h1 | h1
         ·rw [e']; exact hoX.out g h1
         ·rw [e', h1]; simp; omega
        have hk5 : Kept w w5 := Below.trans (Below.alloc hkj hkjs _) hb5
        go_roundg (gk - 1)
        case measure => omega
        case rel => exact ⟨1 + 1, by omega, by go_num, by rw [range_map_snoc, ← List.append_assoc]; exact hown5, hk5, HX5, hide hX5⟩
       ·skip
        skip
        go_wp2_with (at_builtin; refine wpList_append_el (T := u8T) rfl (.tmp 71) (.tmp 78) 23 rfl w.heap.size 5 i5 _ 1 Try.underlying23 hi5 hz50 hz51 hz52 rfl (by decide) _ _ _ (by rfl) (hown.alloc _) _ _ _ (byteI x.data 2) (by rfl) (heap_at _ rfl) ⟨rfl, byteI_u8 _ _⟩ (by simp [Value.oneCell']) (by unfold maxLen; omega) (by omega) (by simp; omega) ?_; intro g cap w5 hown5 hg5 hb5 hat5 hlt5)
        have HX5 := (hg5.block XX (by simp; omega) (fun e => hoX.out XX e.symm rfl)).trans ((Below.heap_alloc _ _ XX hxl).trans HXj)
        have hX5 : ∀ h : Nat, (Value.slice (some ⟨g, 0, none⟩) (pre.length + 1 + 2 + 1) cap).ownBlock = some h → h ≠ XX := by
         intro h hh
         have e' : h = g := by simpa [Value.ownBlock] using hh.symm
         rcases hat5 with h1 | h1
         ·rw [e']; exact hoX.out g h1
         ·rw [e', h1]; simp; omega
        have hk5 : Kept w w5 := Below.trans (Below.alloc hkj hkjs _) hb5
        go_roundg (gk - 1)
        case measure => omega
        case rel => exact ⟨2 + 1, by omega, by go_num, by rw [range_map_snoc, ← List.append_assoc]; exact hown5, hk5, HX5, hide hX5⟩
       ·skip
        skip
        go_wp2_with (at_builtin; refine wpList_append_el (T := u8T) rfl (.tmp 71) (.tmp 78) 23 rfl w.heap.size 5 i5 _ 1 Try.underlying23 hi5 hz50 hz51 hz52 rfl (by decide) _ _ _ (by rfl) (hown.alloc _) _ _ _ (byteI x.data 3) (by rfl) (heap_at _ rfl) ⟨rfl, byteI_u8 _ _⟩ (by simp [Value.oneCell']) (by unfold maxLen; omega) (by omega) (by simp; omega) ?_; intro g cap w5 hown5 hg5 hb5 hat5 hlt5)
        have HX5 := (hg5.block XX (by simp; omega) (fun e => hoX.out XX e.symm rfl)).trans ((Below.heap_alloc _ _ XX hxl).trans HXj)
        have hX5 : ∀ h : Nat, (Value.slice (some ⟨g, 0, none⟩) (pre.length + 1 + 3 + 1) cap).ownBlock = some h → h ≠ XX := by
         intro h hh
         have e' : h = g := by simpa [Value.ownBlock] using hh.symm
         rcases hat5 with h1 | h1
         ·rw [e']; exact hoX.out g h1
         ·rw [e', h1]; simp; omega
        have hk5 : Kept w w5 := Below.trans (Below.alloc hkj hkjs _) hb5
        go_roundg (gk - 1)
        case measure => omega
        case rel => exact ⟨3 + 1, by omega, by go_num, by rw [range_map_snoc, ← List.append_assoc]; exact hown5, hk5, HX5, hide hX5⟩
   ·have Hnot : Hid ((joinE l ≠ 0 ∧ Ending.returned (.tuple #[.slice none 0 0, .int .i64 (4)]) = .returned (.tuple #[.slice none 0 0, .int .i64 (joinE l)]) ∧ Kept w W) ∨ (joinE l = 0 ∧ ∃ A', Ending.returned (.tuple #[.slice none 0 0, .int .i64 (4)]) = .returned (.tuple #[.slice A' (joinB l).length (joinB l).length, .int .i64 (0)]) ∧ Sl u8T W (fun b => w.heap.size ≤ b ∧ b < W.heap.size) A' (joinB l).length (joinB l) ∧ Kept w W)) := by
     have hE : joinE l = 4 := by
      unfold joinE
      rw [if_neg]
      intro hall
      exact hwd (List.all_eq_true.1 hall x (List.mem_of_getElem? Hx.out))
     exact hide (.inl ⟨by rw [hE]; decide, by rw [hE], hkw2.out⟩)
    obtain ⟨hty, htg, hsz, hda⟩ := hxok
    unfold u8k at hty htg
    unfold u32k at hda
    rcases notwide Hxok.out hwd with h | ⟨g1, h⟩ | ⟨g1, g2, h⟩ | ⟨g1, g2, h⟩ | ⟨g1, g2, h⟩ | ⟨g1, g2, h, h4⟩ | ⟨g1, g2, h, h4⟩ | ⟨g1, g2, h, h4⟩
    ·skip
     go_wp2_with fail
     refine bodyPost_ret (v := .tuple #[.slice none 0 0, .int .i64 (4)]) (by simp [results, Try.results11, go_sem]) rfl ?_
     exact Hnot.out
    ·have g1' : 15 < x.tg := h
     go_wp2_with fail
     refine bodyPost_ret (v := .tuple #[.slice none 0 0, .int .i64 (4)]) (by simp [results, Try.results11, go_sem]) rfl ?_
     exact Hnot.out
    ·skip
     go_wp2_with fail
     refine bodyPost_ret (v := .tuple #[.slice none 0 0, .int .i64 (4)]) (by simp [results, Try.results11, go_sem]) rfl ?_
     exact Hnot.out
    ·have h' : 0 ≤ x.size := by omega
     go_wp2_with fail
     refine bodyPost_ret (v := .tuple #[.slice none 0 0, .int .i64 (4)]) (by simp [results, Try.results11, go_sem]) rfl ?_
     exact Hnot.out
    ·rw [h] at x2
     go_wp2_with fail
     refine bodyPost_ret (v := .tuple #[.slice none 0 0, .int .i64 (4)]) (by simp [results, Try.results11, go_sem]) rfl ?_
     exact Hnot.out
    ·rw [h] at x2
     have hq : (x.data != 0) = true := by simp; omega
     go_wp2_with fail
     refine bodyPost_ret (v := .tuple #[.slice none 0 0, .int .i64 (4)]) (by simp [results, Try.results11, go_sem]) rfl ?_
     exact Hnot.out
    ·rw [h] at x2
     have hq : (x.data / 256 != 0) = true := by simp; omega
     go_wp2_with fail
     refine bodyPost_ret (v := .tuple #[.slice none 0 0, .int .i64 (4)]) (by simp [results, Try.results11, go_sem]) rfl ?_
     exact Hnot.out
    ·rw [h] at x2
     have hq : (x.data / 65536 != 0) = true := by simp; omega
     go_wp2_with fail
     refine bodyPost_ret (v := .tuple #[.slice none 0 0, .int .i64 (4)]) (by simp [results, Try.results11, go_sem]) rfl ?_
     exact Hnot.out
  ·have hkn : k = n := by have := Hk.out; omega
   have hlt' : (n : Int) ≤ (k : Int) := by omega
   have hall : l.take k = l := by rw [hkn, ← hll.out, List.take_length]
   rw [hall] at hown
   have hw := Hw.out
   rw [hall] at hw
   have hal : l.all It.wide = true := List.all_eq_true.2 hw
   have hjl := joinB_len l (fun x hx => ⟨hw x hx, hits.out x hx⟩)
   rw [hll.out] at hjl
   obtain ⟨A5, c5, rfl, h51, h52⟩ := hown.isSlice
   have HS := hide (hown.sl_of (fun b => w.heap.size ≤ b ∧ b < wr.heap.size) (fun g h1 h2 => ⟨h1, h2⟩) (fun _ _ h => h))
   have HE : Hid (joinE l = if 4096 < (joinB l).length then 3 else 0) := by unfold joinE; rw [if_pos hal]; exact hide rfl
   clear hown hall hw hal Hw
   generalize hL : joinB l = L at *
   have HL := hide hL
   clear hL
   generalize hN : L.length = N at *
   have HN := hide hN
   clear hN
   by_cases h4 : 4096 < N
   ·have h4' : (4096 : Int) < (N : Int) := by omega
    have hE : joinE l = 3 := by rw [HE.out, if_pos h4]
    have HE3 := hide hE
    clear hE HE
    go_wp2_with fail
    refine bodyPost_ret (v := .tuple #[.slice none 0 0, .int .i64 (3)]) (by simp [results, Try.results11, go_sem]) rfl ?_
    exact .inl ⟨by rw [HE3.out]; decide, by rw [HE3.out], hkw⟩
   ·have h4' : (N : Int) ≤ 4096 := by omega
    have hE : joinE l = 0 := by rw [HE.out, if_neg h4]
    have HE3 := hide hE
    clear hE HE
    go_wp2_with (go_at_call 25; refine (clip25 A5 _ c5 h51 h52 _).mono ?_; rintro e w1 ⟨rfl, rfl⟩)
    refine bodyPost_ret (v := .tuple #[.slice A5 N N, .int .i64 (0)]) (by simp [results, Try.results11, go_sem]) rfl ?_
    exact .inr ⟨HE3.out, A5, by rw [HL.out, HN.out], by rw [HL.out, HN.out]; exact HS.out, hkw⟩
end Go.Proofs.Ytegdigfcgeoboaa
namespace Go.Proofs.Ytegdigfcgeoboaa
open Go.RowKit Go.Maps
def Gl.cells (g : Gl) : List Value := [.int .u32 g.page, .int .i64 g.lo, .int .i64 g.hi, .int .u32 g.size, .int .u32 g.count, .int .u32 g.report]
def glT : Ty Gl := Ty.flat 6 Gl.cells (fun _ => True) (fun _ => rfl)
def Co.cells (c : Co) : List Value := [.int .u8 c.kind, .int .u32 c.usage, .int .i64 c.parent]
def coT : Ty Co := Ty.flat 3 Co.cells (fun _ => True) (fun _ => rfl)
def Fd.cells (f : Fd) (A : Option Addr) : List Value := [.int .u8 f.kind, .int .u8 f.report, .int .i64 f.parent, .slice A f.usages.length f.usages.length, .int .i64 f.lo, .int .i64 f.hi, .int .i64 f.size, .int .i64 f.count, .int .i64 f.pos, .bool f.const, .bool f.array, .bool f.signed, .bool f.rel]
def fdT : Ty Fd :=
 ⟨13, fun w F f cs => ∃ A, cs = f.cells A ∧ f.usages.length ≤ maxLen ∧ Sl u32T w F A f.usages.length f.usages,
  fun {_ _ _ _} ⟨_, e, _⟩ => by rw [e]; rfl,
  fun {_ _ _ _ _ _} ⟨A, e, h1, h⟩ hB hk => ⟨A, e, h1, h.keep hB hk⟩⟩
def Ty.on {α : Type} (X : Nat → Prop) (t : Ty α) : Ty α :=
 ⟨t.size, fun w F x cs => t.rel w (fun b => F b ∧ X b) x cs, t.len, fun h hF hk => t.keep h (fun b hb => ⟨hF b hb.1, hb.2⟩) (fun b o hb => hk b o hb.1)⟩
section
variable {α : Type} {t : Ty α} {e : TypeId} {w w' : World} {base n : Nat} {v : Value} {xs : List α} {X X' : Nat → Prop}
theorem Own.widen (h : Own (t.on X) e base w v n xs) (hX : ∀ b, b < w.heap.size → X b → X' b) : Own (t.on X') e base w v n xs := by
 obtain ⟨h1, cells, h2, h3⟩ := h
 exact ⟨h1, cells, h2, fun i x hx => t.keep (h3 i x hx) (fun b hb => ⟨hb.1, hX b hb.1.1 hb.2⟩) (fun _ _ _ => rfl)⟩
theorem Own.grownX (h : Own (t.on X) e base w v n xs) {row : Option Nat} (hg : w.grownBy w' row) (hr : ∀ b, some b = row → ¬ X b) (hv : v.ownBlock = none ∨ v.ownBlock ≠ row) : Own (t.on X) e base w' v n xs := by
 obtain ⟨h1, cells, h2, h3⟩ := h
 refine ⟨h1, cells, h2.kept hg hv, fun i x hx => t.keep (h3 i x hx) (fun b hb => ⟨⟨Nat.lt_of_lt_of_le hb.1.1 hg.size, hb.1.2⟩, hb.2⟩) (fun b o hb => ?_)⟩
 exact World.cell?_of_block (a := ⟨b, o, none⟩) (hg.block b hb.1.1 (fun e => hr b e hb.2))
theorem Own.grownF (h : Own t e base w v n xs) (ht : Flat t) {row : Option Nat} (hg : w.grownBy w' row) (hv : v.ownBlock = none ∨ v.ownBlock ≠ row) : Own t e base w' v n xs := by
 obtain ⟨h1, cells, h2, h3⟩ := h
 exact ⟨h1, cells, h2.kept hg hv, fun i x hx => ht (h3 i x hx)⟩
theorem rows_apart {e' : TypeId} {α' : Type} {t' : Ty α'} {v' : Value} {n' : Nat} {xs' : List α'} {base' : Nat} (h : Own t e base w v n xs) (h' : Own t' e' base' w v' n' xs') (he : e ≠ e') : v.ownBlock = none ∨ v.ownBlock ≠ v'.ownBlock := by
 obtain ⟨_, _, ⟨_, h2⟩, _⟩ := h
 obtain ⟨_, _, ⟨_, h2'⟩, _⟩ := h'
 rcases h2 with ⟨rfl, _⟩ | ⟨g, cap, cur, rfl, _, hg, _⟩
 ·exact .inl rfl
 ·refine .inr (fun ee => ?_)
  rcases h2' with ⟨rfl, _⟩ | ⟨g', cap', cur', rfl, _, hg', _⟩
  ·cases ee
  ·have : g = g' := by simpa [Value.ownBlock] using ee
   subst this
   rw [hg] at hg'
   injection hg' with hg'
   injection hg' with _ hg' _
   exact he hg'
end
theorem flat_gl : Flat glT := fun {w w' F F' x cs} h => h
theorem flat_co : Flat coT := fun {w w' F F' x cs} h => h
theorem flat_u32 : Flat u32T := fun {w w' F F' x cs} h => h
def bitsF (l : List Fd) (f : Lit → Option Value) : Prop := ∀ k r : Int, (1 ≤ k ∧ k ≤ 3) → u8k r → (f (kL k r)).getD (.int .i64 0) = .int .i64 (bitsS l k r)
def Busy (R m : Nat) (vs vu vf vc : Value) : Nat → Prop := fun b => b ≠ R ∧ b ≠ m ∧ vs.ownBlock ≠ some b ∧ vu.ownBlock ≠ some b ∧ vf.ownBlock ≠ some b ∧ vc.ownBlock ≠ some b
def rdC (s : RS) (m : Nat) (vs vu vf vc : Value) : Array Value := #[.int .u32 s.g.page, .int .i64 s.g.lo, .int .i64 s.g.hi, .int .u32 s.g.size, .int .u32 s.g.count, .int .u32 s.g.report, vs, vu, .int .u32 s.kept, .bool s.keeps, .int .i64 s.opn, .map (some m), vf, vc, .bool s.numbered]
structure Rd (w : World) (base R m : Nat) (vs vu vf vc : Value) (s : RS) : Prop where
 box : w.heap[R]? = some (.cells (rdC s m vs vu vf vc) 86 (0, 0))
 st : Own glT 83 base w vs s.stack.length s.stack
 us : Own u32T 27 base w vu s.usages.length s.usages
 fs : Own (fdT.on (Busy R m vs vu vf vc)) 59 base w vf s.fields.length s.fields
 cs : Own coT 68 base w vc s.colls.length s.colls
 map : ∃ f, MapIs Try.prog 90 w m s.fields.length f ∧ bitsF s.fields f
 low : R < base ∧ m < base ∧ R ≠ m
section
variable {w w' : World} {base R m : Nat} {vs vu vf vc : Value} {s : RS}
theorem Rd.kept (h : Rd w base R m vs vu vf vc s) (hk : Kept w w') : Rd w' base R m vs vu vf vc s := by
 obtain ⟨f, h1, h2⟩ := h.map
 exact ⟨heap_kept hk h.box, h.st.kept hk, h.us.kept hk, h.fs.kept hk, h.cs.kept hk, ⟨f, h1.keep hk, h2⟩, h.low⟩
theorem Rd.set (h : Rd w base R m vs vu vf vc s) (i : Nat) (u : Value) {s' : RS} (hc : (rdC s m vs vu vf vc).setIfInBounds i u = rdC s' m vs vu vf vc) (h1 : s'.stack = s.stack) (h2 : s'.usages = s.usages) (h3 : s'.fields = s.fields) (h4 : s'.colls = s.colls) : Rd (w.setCell ⟨R, i, none⟩ u) base R m vs vu vf vc s' := by
 obtain ⟨f, hm, hf⟩ := h.map
 have hg : w.grownBy (w.setCell ⟨R, i, none⟩ u) (some R) := grown_at grown_self i u
 have hown : ∀ {α : Type} {t : Ty α} {e : TypeId} {v : Value} {n : Nat} {xs : List α}, Own t e base w v n xs → v.ownBlock = none ∨ v.ownBlock ≠ some R := by
  intro α t e v n xs ho
  by_cases hv : v.ownBlock = some R
  ·exact absurd (ho.lt hv).1 (by have := h.low.1; omega)
  ·exact .inr hv
 refine ⟨by rw [← hc]; exact heap_store h.box u, by rw [h1]; exact h.st.grownF flat_gl hg (hown h.st), by rw [h2]; exact h.us.grownF flat_u32 hg (hown h.us), ?_, by rw [h4]; exact h.cs.grownF flat_co hg (hown h.cs), ⟨f, ?_, by rw [h3]; exact hf⟩, h.low⟩
 ·rw [h3]
  exact h.fs.grownX hg (fun b e hx => by injection e with e; exact hx.1 e) (hown h.fs)
 ·rw [h3]
  exact hm.kept hg (fun e => h.low.2.2 (by injection e with e; exact e.symm))
end
end Go.Proofs.Ytegdigfcgeoboaa
