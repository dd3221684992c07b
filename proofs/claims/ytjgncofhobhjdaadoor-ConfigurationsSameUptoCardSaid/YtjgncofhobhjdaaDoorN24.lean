/- Rows of bytes written over. -/
import Derived.Test.YtjgncofhobhjdaaDoorChecked
import Derived.Deep.RegionHeld3
import Derived.Deep.DrawnRows
import Derived.Deep.DeepCutAuto
import Derived.Deep.LoopGhost
import Derived.Outline
import Derived.Handy
import Derived.OwnWalk
import Derived.BigQuiet
import Derived.Laws.IdiomCopy
import Derived.Deep.RegionLawGrows
import Derived.Test.YtjgncofhobhjdaaDoorN5
import Derived.Test.YtjgncofhobhjdaaDoorN17
import Derived.Test.YtjgncofhobhjdaaDoorN1
import Derived.Test.YtjgncofhobhjdaaDoorN15
import Derived.Test.YtjgncofhobhjdaaDoorN12
set_option linter.unusedVariables false
set_option linter.unusedSimpArgs false
set_option linter.unusedSectionVars false
/- A row of bytes with room behind it: one byte written, a part written over a part. No condition but those named. -/
namespace Go.Proofs.YtjgncofhobhjdaaDoor
open Go.RowKit

/-- a row that '[]byte(s)' laid -/
def RowB (W : World) (g cap : Nat) (l : List Int) : Prop := ∃ r : List Value, W.heap[g]? = some (.cells (l.map (Value.int .u8) ++ r).toArray 5 (cap, cap + 1)) ∧ l.length + r.length = cap
theorem byteAt_get {l : List Int} {i : Nat} (h : i < l.length) : l[i]? = some (byteAt l i) := by
  unfold byteAt
  rw [List.getD_eq_getElem?_getD, List.getElem?_eq_getElem h]
  rfl
section
variable {W W' : World} {g cap : Nat} {l : List Int}
theorem RowB.kept (h : RowB W g cap l) (hk : Kept W W') : RowB W' g cap l := by
  obtain ⟨r, h1, h2⟩ := h
  exact ⟨r, heap_kept hk h1, h2⟩
theorem RowB.lt (h : RowB W g cap l) : g < W.heap.size := by
  obtain ⟨r, h1, _⟩ := h
  exact heap_lt h1
theorem RowB.cell (h : RowB W g cap l) {i : Nat} (hi : i < l.length) : W.cell? ⟨g, i, none⟩ = some (.int .u8 (byteAt l i)) := by
  obtain ⟨r, h1, _⟩ := h
  rw [cell_of_row _ _ _ _ _ _ h1, List.getElem?_toArray, List.getElem?_append_left (by simpa using hi), List.getElem?_map, byteAt_get hi]
  rfl
theorem RowB.spare (h : RowB W g cap l) {i : Nat} (hi : i < cap) : (W.cell? ⟨g, i, none⟩).isSome = true ∧ W.frozen? ⟨g, i, none⟩ = false := by
  obtain ⟨r, h1, h2⟩ := h
  refine ⟨?_, ?_⟩
  · rw [cell_of_row _ _ _ _ _ _ h1, List.getElem?_toArray, List.getElem?_eq_getElem (by simp; omega)]
    rfl
  · simp only [World.frozen?, h1, Bool.and_eq_false_iff, decide_eq_false_iff_not]
    left
    omega
theorem RowB.sl (h : RowB W g cap l) (hu : ∀ z ∈ l, u8k z) : Sl u8T W (low W.heap.size) (some ⟨g, 0, none⟩) l.length l := by
  obtain ⟨r, h1, _⟩ := h
  exact sl_of_cells h1 (heap_lt h1) hu
theorem RowB.set (h : RowB W g cap l) {i : Nat} (hi : i < l.length) (z : Int) : RowB (W.setCell ⟨g, i, none⟩ (.int .u8 z)) g cap (l.set i z) := by
  obtain ⟨r, h1, h2⟩ := h
  refine ⟨r, ?_, by rw [List.length_set]; exact h2⟩
  rw [setCell_eq_setRow _ _ _ _ _ _ _ h1, heap_row h1]
  congr 2
  apply Array.toList_inj.1
  rw [Array.toList_setIfInBounds]
  simp only
  rw [List.set_append_left _ _ (by simpa using hi), List.map_set]
end
theorem setCells_kept {V : World} {g : Nat} (hg : V.heap.size ≤ g) : ∀ (vs : List Value) (o : Nat) (W : World), Kept V W → Kept V (W.setCells g o vs)
  | [], _, _, h => h
  | v :: vs, o, W, h => setCells_kept hg vs (o + 1) _ (h.setCell hg _)
theorem setCells_size {g : Nat} : ∀ (vs : List Value) (o : Nat) (W : World), (W.setCells g o vs).heap.size = W.heap.size
  | [], _, _ => rfl
  | v :: vs, o, W => by
    rw [World.setCells, setCells_size vs (o + 1), World.size_setCell]
theorem sl_cells {W : World} {g n : Nat} {l : List Int} (hn : l.length = n) (hg : g < W.heap.size) (hu : ∀ z ∈ l, u8k z) (h : ∀ i, i < n → W.cell? ⟨g, i, none⟩ = some (.int .u8 (byteAt l i))) : Sl u8T W (low W.heap.size) (some ⟨g, 0, none⟩) n l := by
  refine ⟨hn, fun i x hx => ⟨g, 0, [.int .u8 x], rfl, hg, ⟨rfl, hu x (List.mem_of_getElem? hx)⟩, fun j v hv => ?_⟩⟩
  have hj : j = 0 := by
    cases j with
    | zero => rfl
    | succ j => simp at hv
  subst hj
  have hv' : Value.int .u8 x = v := by simpa using hv
  subst hv'
  have hi := (List.getElem?_eq_some_iff.1 hx).1
  have hb := byteAt_get hi
  rw [hx] at hb
  have hb' := Option.some.inj hb
  rw [hb']
  have := h i (by omega)
  simpa [u8T, Ty.flat] using this
/-- a part written over a row from place o on -/
theorem RowB.put {W : World} {g cap o : Nat} {l t : List Int} (h : RowB W g cap l) (ho : o ≤ l.length) (hc : o + t.length ≤ cap) (hu : ∀ z ∈ l, u8k z) (ht : ∀ z ∈ t, u8k z) :
    Sl u8T (W.setCells g o (t.map (Value.int .u8))) (low (W.setCells g o (t.map (Value.int .u8))).heap.size) (some ⟨g, 0, none⟩) (o + t.length) (l.take o ++ t) := by
  refine sl_cells (by rw [List.length_append, List.length_take]; omega) (by rw [setCells_size]; exact h.lt) (fun z hz => ?_) (fun i hi => ?_)
  · rcases List.mem_append.1 hz with hz | hz
    · exact hu z (List.mem_of_mem_take hz)
    · exact ht z hz
  · have hb : byteAt (l.take o ++ t) i = if i < o then byteAt l i else byteAt t (i - o) := by
      unfold byteAt
      rw [List.getD_eq_getElem?_getD, List.getD_eq_getElem?_getD, List.getD_eq_getElem?_getD]
      have hlo : (l.take o).length = o := by rw [List.length_take]; omega
      by_cases hio : i < o
      · rw [if_pos hio, List.getElem?_append_left (by omega), List.getElem?_take_of_lt hio]
      · rw [if_neg hio, List.getElem?_append_right (by omega), hlo]
    rw [hb]
    by_cases hio : i < o
    · rw [if_pos hio, World.cell?_setCells_out _ _ _ _ _ (fun _ _ => .inl hio)]
      exact h.cell (by omega)
    · rw [if_neg hio]
      have hj : i - o < (t.map (Value.int .u8)).length := by rw [List.length_map]; omega
      have h2 := World.cell?_setCells_in g (t.map (Value.int .u8)) o W (fun j hj => (h.spare (by rw [List.length_map] at hj; omega)).1) (i - o) hj
      rw [show o + (i - o) = i by omega] at h2
      rw [h2, List.getElem_map]
      congr 2
      have := byteAt_get (l := t) (i := i - o) (by omega)
      rw [List.getElem?_eq_getElem (by omega)] at this
      exact Option.some.inj this
/-- what lies behind place lo -/
theorem tail_cells {W : World} {g cap lo : Nat} {l : List Int} (hW : RowB W g cap l) : ∀ j u, ((l.drop lo).map (Value.int .u8))[j]? = some u → W.cell? ((⟨g, lo, none⟩ : Addr).add j) = some u := by
  intro j u hu
  have hj := (List.getElem?_eq_some_iff.1 hu).1
  rw [List.length_map, List.length_drop] at hj
  rw [Addr.add_mid, hW.cell (by omega)]
  rw [List.getElem?_map, List.getElem?_drop, byteAt_get (by omega)] at hu
  exact hu
theorem one_map (l : List Int) : ∀ u ∈ l.map (Value.int .u8), u.oneCell' = true := by
  intro u hu
  obtain ⟨z, _, rfl⟩ := List.mem_map.1 hu
  rfl
theorem tail_none {W : World} {l : List Int} {lo : Nat} {ad : Addr} (h : l.length ≤ lo) : ∀ j u, ((l.drop lo).map (Value.int .u8))[j]? = some u → W.cell? (ad.add j) = some u := by
  intro j u hu
  rw [List.drop_of_length_le h] at hu
  simp at hu
end Go.Proofs.YtjgncofhobhjdaaDoor
/- The law Parse: a byte is left out; a byte is doubled. Printed by gen_ly.py. -/
namespace Go.Proofs.YtjgncofhobhjdaaDoor
open Go.RowKit
attribute [local go_sem ↓] Go.wp_at_zero Go.wp_at_succ

noncomputable def code11p : Code := (Tryd.f4.body.bind (findR 11)).getD .skip
set_option maxRecDepth 1000000 in
set_option maxHeartbeats 16000000 in
theorem del_piece {u0 u1 u2 u3 u4 u5 u6 u9 u10 u11 u12 u13 u14 u15 u16 u17 u18 u19 u20 u21 u22 u23 u24 u25 u26 u27 u28 u29 u30 u31 u32 u33 u34 u35 u36 u37 u38 u39 u40 u41 u42 u43 u44 u45 u46 u47 u48 u49 u50 u51 u52 u53 u54 u55 u56 u57 u58 u59 u60 u61 u62 u63 u64 u65 u66 u67 u68 u69 u70 u71 u72 u73 u74 u75 u76 u77 u78 u79 u80 u81 u82 u83 u84 u85 u86 u87 u88 u89 u90 u91 u92 u93 u94 u95 u96 u97 u98 u99 u100 u101 u102 u103 : Value} {g n cp i : Nat} {l : List Int} {V wr : World} (hr : RowB wr g cp l) (hn : l.length = n) (hin : i < n) (hc : n ≤ cp) (hcm : cp ≤ maxLen) (hn4 : n ≤ 4000) (hu : ∀ z ∈ l, u8k z) (hkV : Kept V wr) (hgV : V.heap.size ≤ g)
    (Q : Exit → Act → World → Prop) (hQ : ∀ (s50 s51 s52 s53 s54 s55 s56 s57 : Value)  (w' : World), Kept V w' → Sl u8T w' (low w'.heap.size) (some ⟨g, 0, none⟩) (n - 1) (l.take i ++ l.drop (i + 1)) → Q .normal ⟨#[u0, u1, u2, u3, u4, u5, u6, .slice (some ⟨g, 0, none⟩) (n - 1) cp, .int .i64 i, u9, u10, u11, u12, u13, u14, u15, u16, u17, u18, u19, u20, u21, u22, u23, u24, u25, u26, u27, u28, u29, u30, u31, u32, u33, u34, u35, u36, u37, u38, u39, u40, u41, u42, u43, u44, u45, u46, u47, u48, u49, s50, s51, s52, s53, s54, s55, s56, s57, u58, u59, u60, u61, u62, u63, u64, u65, u66, u67, u68, u69, u70, u71, u72, u73, u74, u75, u76, u77, u78, u79, u80, u81, u82, u83, u84, u85, u86, u87, u88, u89, u90, u91, u92, u93, u94, u95, u96, u97, u98, u99, u100, u101, u102, u103], []⟩ w') :
    Code.wp Tryd.prog (headC code11p) Q ⟨#[u0, u1, u2, u3, u4, u5, u6, .slice (some ⟨g, 0, none⟩) n cp, .int .i64 i, u9, u10, u11, u12, u13, u14, u15, u16, u17, u18, u19, u20, u21, u22, u23, u24, u25, u26, u27, u28, u29, u30, u31, u32, u33, u34, u35, u36, u37, u38, u39, u40, u41, u42, u43, u44, u45, u46, u47, u48, u49, u50, u51, u52, u53, u54, u55, u56, u57, u58, u59, u60, u61, u62, u63, u64, u65, u66, u67, u68, u69, u70, u71, u72, u73, u74, u75, u76, u77, u78, u79, u80, u81, u82, u83, u84, u85, u86, u87, u88, u89, u90, u91, u92, u93, u94, u95, u96, u97, u98, u99, u100, u101, u102, u103], []⟩ wr := by
  obtain ⟨i8, hi5, hz0, hz1, hz2⟩ := info_parts info5
  have hcm2 := hcm
  unfold maxLen at hcm2
  have HQ := hide hQ
  have Hr := hide hr
  have Hu := hide hu
  have Hn := hide hn
  have Hkw := hide hkV
  have Hcm := hide hcm
  have hii : (0 : Int) ≤ (i : Int) := by omega
  have hin2 : (i : Int) < (n : Int) := by omega
  clear hQ hr hu hn hkV hcm
  obtain ⟨j, hj⟩ : ∃ j, i + 1 = j := ⟨_, rfl⟩
  have hw1 : IntKind.i64.wrap ((i : Int) + 1) = (j : Int) := by rw [IntKind.wrap_i64]; omega
  have hge1 : (0 : Int) ≤ (j : Int) := by omega
  have hle1 : (j : Int) ≤ (n : Int) := by omega
  have hle2 : j ≤ n := by omega
  have Hj := hide hj
  have Hrd := hide (Hr.out.kept ((Below.refl _ wr).drew))
  clear hj
  conv => arg 2; whnf
  refine wp_region_noPanic ?_
  have hdl : (l.drop j).length = n - j := by rw [List.length_drop, Hn.out]
  have hd8 : ∀ z ∈ l.drop j, u8k z := fun z hz => Hu.out z (List.mem_of_mem_drop hz)
  have Hdl := hide hdl
  have Hd8 := hide hd8
  clear hdl hd8
  have hilt : (i : Int) ≤ (cp : Int) := by omega
  have hsm2 : i + (n - j) ≤ cp := by have := Hj.out; omega
  have Hsp := hide (show ∀ j2, j2 < ((l.drop j).map (Value.int .u8)).length → (wr.drew.cell? ⟨g, 0 + i * 1 + j2, none⟩).isSome = true ∧ wr.drew.frozen? ⟨g, 0 + i * 1 + j2, none⟩ = false from fun j2 hj2 => by rw [Nat.mul_one, Nat.zero_add]; exact Hrd.out.spare (by rw [List.length_map, Hdl.out] at hj2; omega))
  have HQ2 : Hid (∀ (s50 s51 s52 s53 s54 s55 s56 s57 : Value), Q .normal ⟨#[u0, u1, u2, u3, u4, u5, u6, .slice (some ⟨g, 0, none⟩) (i + (n - j)) cp, .int .i64 i, u9, u10, u11, u12, u13, u14, u15, u16, u17, u18, u19, u20, u21, u22, u23, u24, u25, u26, u27, u28, u29, u30, u31, u32, u33, u34, u35, u36, u37, u38, u39, u40, u41, u42, u43, u44, u45, u46, u47, u48, u49, s50, s51, s52, s53, s54, s55, s56, s57, u58, u59, u60, u61, u62, u63, u64, u65, u66, u67, u68, u69, u70, u71, u72, u73, u74, u75, u76, u77, u78, u79, u80, u81, u82, u83, u84, u85, u86, u87, u88, u89, u90, u91, u92, u93, u94, u95, u96, u97, u98, u99, u100, u101, u102, u103], []⟩ (wr.drew.setCells g (0 + i * 1) ((l.drop j).map (Value.int .u8)))) := by
    have hput := Hrd.out.put (o := i) (t := l.drop j) (by have := Hn.out; omega) (by rw [Hdl.out]; exact hsm2) Hu.out Hd8.out
    rw [Hdl.out] at hput
    intro s50 s51 s52 s53 s54 s55 s56 s57
    rw [show i + (n - j) = n - 1 by have := Hj.out; omega]
    refine HQ.out s50 s51 s52 s53 s54 s55 s56 s57 _ (setCells_kept hgV _ _ _ Hkw.out.drew) ?_
    rw [Nat.mul_one, Nat.zero_add]
    have e : i + (n - j) = n - 1 := by have := Hj.out; omega
    rw [e] at hput
    rw [← Hj.out] at hput ⊢
    exact hput
  clear HQ
  by_cases hcp : cp = j
  case pos =>
    subst hcp
    have e0 : n - cp = 0 := by omega
    have hq2 := HQ2.out
    simp only [e0, Nat.add_zero] at hq2
    have HQ3 := hide hq2
    have hsm0 : i + 0 ≤ cp := by omega
    have Hdl0 := hide (show ((l.drop cp).map (Value.int .u8)).length = 0 * 1 by rw [List.length_map, Hdl.out, e0])
    clear hq2 e0 HQ2 hsm2
    refine wp_region_any (by kernel_rfl) ?_
    refine wpAny_take (i := 0) (v := ?_) rfl (by kernel_rfl) (by kernel_rfl) (by kernel_rfl) (fun _ _ _ h => h) (Or.inl ⟨by kernel_rfl, ?_⟩) ?_
    rotate_left
    · intro w'
      first | (go_simp; done) | (go_simp; with_reducible rfl)
    try simp only [Act.put, List.getElem_toArray, List.getElem_cons_zero, List.getElem_cons_succ, List.setIfInBounds_toArray, List.set_cons_zero, List.set_cons_succ]
    refine wpAny_take (i := 1) (v := ?_) rfl (by kernel_rfl) (by kernel_rfl) (by kernel_rfl) (fun _ _ _ h => h) (Or.inl ⟨by kernel_rfl, ?_⟩) ?_
    rotate_left
    · intro w'
      first | (go_simp; done) | (go_simp; with_reducible rfl)
    try simp only [Act.put, List.getElem_toArray, List.getElem_cons_zero, List.getElem_cons_succ, List.setIfInBounds_toArray, List.set_cons_zero, List.set_cons_succ]
    refine wpAny_take (i := 3) (v := ?_) rfl (by kernel_rfl) (by kernel_rfl) (by kernel_rfl) (fun _ _ _ h => h) (Or.inl ⟨by kernel_rfl, ?_⟩) ?_
    rotate_left
    · intro w'
      first | (go_simp; done) | (go_simp; with_reducible rfl)
    try simp only [Act.put, List.getElem_toArray, List.getElem_cons_zero, List.getElem_cons_succ, List.setIfInBounds_toArray, List.set_cons_zero, List.set_cons_succ]
    refine wpAny_take (i := 4) (v := ?_) rfl (by kernel_rfl) (by kernel_rfl) (by kernel_rfl) (fun _ _ _ h => h) (Or.inl ⟨by kernel_rfl, ?_⟩) ?_
    rotate_left
    · intro w'
      first | (go_simp; done) | (go_simp; with_reducible rfl)
    try simp only [Act.put, List.getElem_toArray, List.getElem_cons_zero, List.getElem_cons_succ, List.setIfInBounds_toArray, List.set_cons_zero, List.set_cons_succ]
    refine wpAny_take (i := 5) (v := ?_) rfl (by kernel_rfl) (by kernel_rfl) (by kernel_rfl) (fun _ _ _ h => h) (Or.inl ⟨by kernel_rfl, ?_⟩) ?_
    rotate_left
    · intro w'
      first | (go_simp; done) | (go_simp; with_reducible rfl)
    try simp only [Act.put, List.getElem_toArray, List.getElem_cons_zero, List.getElem_cons_succ, List.setIfInBounds_toArray, List.set_cons_zero, List.set_cons_succ]
    refine wpAny_take (i := 2) (v := ?_) rfl (by kernel_rfl) (by kernel_rfl) (by kernel_rfl) (fun _ _ _ h => h) (Or.inl ⟨by kernel_rfl, ?_⟩) ?_
    rotate_left
    · intro w'
      first | (go_simp; done) | (go_simp; with_reducible rfl)
    try simp only [Act.put, List.getElem_toArray, List.getElem_cons_zero, List.getElem_cons_succ, List.setIfInBounds_toArray, List.set_cons_zero, List.set_cons_succ]
    refine wpAny_take (i := 6) (v := ?_) rfl (by kernel_rfl) (by kernel_rfl) (by kernel_rfl) (fun _ _ _ h => h) (Or.inl ⟨by kernel_rfl, ?_⟩) ?_
    rotate_left
    · intro w'
      first | (go_simp; done) | (go_simp; with_reducible rfl)
    try simp only [Act.put, List.getElem_toArray, List.getElem_cons_zero, List.getElem_cons_succ, List.setIfInBounds_toArray, List.set_cons_zero, List.set_cons_succ]
    refine wpAny_ready (rs := [7]) (by kernel_rfl) (by simp) ?_
    refine AllReady.cons rfl (fun K hK => ?_) AllReady.nil
    (refine step_append_room rfl (.tmp 52) (.tmp 56) 34 rfl 5 i8 1 Tryd.underlying34 hi5 hz1 g 0 i cp (by rfl) ⟨g, 0, none⟩ 0 _ ((l.drop cp).map (Value.int .u8)) (by rfl) Hdl0.out (tail_none (by rw [Hn.out]; omega)) (one_map _) hsm0 (fun j2 hj2 => Hsp.out j2 hj2) ?_)
    refine hK _ _ ?_
    clear hK K
    try simp only [Act.put, List.getElem_toArray, List.getElem_cons_zero, List.getElem_cons_succ, List.setIfInBounds_toArray, List.set_cons_zero, List.set_cons_succ]
    refine wpAny_take (i := 8) (v := ?_) rfl (by kernel_rfl) (by kernel_rfl) (by kernel_rfl) (fun _ _ _ h => h) (Or.inl ⟨by kernel_rfl, ?_⟩) ?_
    rotate_left
    · intro w'
      first | (go_simp; done) | (go_simp; with_reducible rfl)
    try simp only [Act.put, List.getElem_toArray, List.getElem_cons_zero, List.getElem_cons_succ, List.setIfInBounds_toArray, List.set_cons_zero, List.set_cons_succ]
    refine wpAny_done (by kernel_rfl) ?_ _
    try simp only [Nat.add_zero]
    exact NoPanic.normal (HQ3.out _ _ _ _ _ _ _ _)
  case neg =>
    have Htc := hide (tail_cells (lo := j) Hrd.out)
    refine wp_region_any (by kernel_rfl) ?_
    refine wpAny_take (i := 0) (v := ?_) rfl (by kernel_rfl) (by kernel_rfl) (by kernel_rfl) (fun _ _ _ h => h) (Or.inl ⟨by kernel_rfl, ?_⟩) ?_
    rotate_left
    · intro w'
      first | (go_simp; done) | (go_simp; with_reducible rfl)
    try simp only [Act.put, List.getElem_toArray, List.getElem_cons_zero, List.getElem_cons_succ, List.setIfInBounds_toArray, List.set_cons_zero, List.set_cons_succ]
    refine wpAny_take (i := 1) (v := ?_) rfl (by kernel_rfl) (by kernel_rfl) (by kernel_rfl) (fun _ _ _ h => h) (Or.inl ⟨by kernel_rfl, ?_⟩) ?_
    rotate_left
    · intro w'
      first | (go_simp; done) | (go_simp; with_reducible rfl)
    try simp only [Act.put, List.getElem_toArray, List.getElem_cons_zero, List.getElem_cons_succ, List.setIfInBounds_toArray, List.set_cons_zero, List.set_cons_succ]
    refine wpAny_take (i := 3) (v := ?_) rfl (by kernel_rfl) (by kernel_rfl) (by kernel_rfl) (fun _ _ _ h => h) (Or.inl ⟨by kernel_rfl, ?_⟩) ?_
    rotate_left
    · intro w'
      first | (go_simp; done) | (go_simp; with_reducible rfl)
    try simp only [Act.put, List.getElem_toArray, List.getElem_cons_zero, List.getElem_cons_succ, List.setIfInBounds_toArray, List.set_cons_zero, List.set_cons_succ]
    refine wpAny_take (i := 4) (v := ?_) rfl (by kernel_rfl) (by kernel_rfl) (by kernel_rfl) (fun _ _ _ h => h) (Or.inl ⟨by kernel_rfl, ?_⟩) ?_
    rotate_left
    · intro w'
      first | (go_simp; done) | (go_simp; with_reducible rfl)
    try simp only [Act.put, List.getElem_toArray, List.getElem_cons_zero, List.getElem_cons_succ, List.setIfInBounds_toArray, List.set_cons_zero, List.set_cons_succ]
    refine wpAny_take (i := 5) (v := ?_) rfl (by kernel_rfl) (by kernel_rfl) (by kernel_rfl) (fun _ _ _ h => h) (Or.inl ⟨by kernel_rfl, ?_⟩) ?_
    rotate_left
    · intro w'
      first | (go_simp; done) | (go_simp; with_reducible rfl)
    try simp only [Act.put, List.getElem_toArray, List.getElem_cons_zero, List.getElem_cons_succ, List.setIfInBounds_toArray, List.set_cons_zero, List.set_cons_succ]
    refine wpAny_take (i := 2) (v := ?_) rfl (by kernel_rfl) (by kernel_rfl) (by kernel_rfl) (fun _ _ _ h => h) (Or.inl ⟨by kernel_rfl, ?_⟩) ?_
    rotate_left
    · intro w'
      first | (go_simp; done) | (go_simp; with_reducible rfl)
    try simp only [Act.put, List.getElem_toArray, List.getElem_cons_zero, List.getElem_cons_succ, List.setIfInBounds_toArray, List.set_cons_zero, List.set_cons_succ]
    refine wpAny_take (i := 6) (v := ?_) rfl (by kernel_rfl) (by kernel_rfl) (by kernel_rfl) (fun _ _ _ h => h) (Or.inl ⟨by kernel_rfl, ?_⟩) ?_
    rotate_left
    · intro w'
      first | (go_simp; done) | (go_simp; with_reducible rfl)
    try simp only [Act.put, List.getElem_toArray, List.getElem_cons_zero, List.getElem_cons_succ, List.setIfInBounds_toArray, List.set_cons_zero, List.set_cons_succ]
    refine wpAny_ready (rs := [7]) (by kernel_rfl) (by simp) ?_
    refine AllReady.cons rfl (fun K hK => ?_) AllReady.nil
    (refine step_append_room rfl (.tmp 52) (.tmp 56) 34 rfl 5 i8 1 Tryd.underlying34 hi5 hz1 g 0 i cp (by rfl) ⟨g, j, none⟩ (n - j) _ ((l.drop j).map (Value.int .u8)) (by rfl) (by rw [List.length_map, Hdl.out, Nat.mul_one]) Htc.out (one_map _) hsm2 (fun j2 hj2 => Hsp.out j2 hj2) ?_)
    refine hK _ _ ?_
    clear hK K
    try simp only [Act.put, List.getElem_toArray, List.getElem_cons_zero, List.getElem_cons_succ, List.setIfInBounds_toArray, List.set_cons_zero, List.set_cons_succ]
    refine wpAny_take (i := 8) (v := ?_) rfl (by kernel_rfl) (by kernel_rfl) (by kernel_rfl) (fun _ _ _ h => h) (Or.inl ⟨by kernel_rfl, ?_⟩) ?_
    rotate_left
    · intro w'
      first | (go_simp; done) | (go_simp; with_reducible rfl)
    try simp only [Act.put, List.getElem_toArray, List.getElem_cons_zero, List.getElem_cons_succ, List.setIfInBounds_toArray, List.set_cons_zero, List.set_cons_succ]
    refine wpAny_done (by kernel_rfl) ?_ _
    exact NoPanic.normal (HQ2.out _ _ _ _ _ _ _ _)
theorem own_u8 {w : World} {base n : Nat} {v : Value} {l : List Int} (h : w.ownsRow base 5 1 v n (l.map (Value.int .u8))) (hu : ∀ z ∈ l, u8k z) : Own u8T 5 base w v n l := by
  have hl := h.1
  rw [List.length_map] at hl
  refine ⟨by omega, _, h, fun i x hx => ⟨?_, hu x (List.mem_of_getElem? hx)⟩⟩
  obtain ⟨hi, hxx⟩ := List.getElem?_eq_some_iff.1 hx
  show ((l.map (Value.int .u8)).drop (i * 1)).take 1 = [Value.int .u8 x]
  rw [Nat.mul_one, List.drop_eq_getElem_cons (by rw [List.length_map]; exact hi), List.getElem_map, hxx]
  rfl
theorem own_u8' {w : World} {base n : Nat} {v : Value} {l m : List Int} (h : w.ownsRow base 5 1 v n (l.map (Value.int .u8) ++ m.map (Value.int .u8))) : Own valT 5 base w v n (l.map (Value.int .u8) ++ m.map (Value.int .u8)) := by
  have hl := h.1
  refine ⟨by omega, _, h, fun i x hx => ?_⟩
  obtain ⟨hi, hxx⟩ := List.getElem?_eq_some_iff.1 hx
  refine ⟨?_, ?_⟩
  · show (List.drop (i * 1) _).take 1 = [x]
    rw [Nat.mul_one, List.drop_eq_getElem_cons hi, hxx]
    rfl
  · rcases List.mem_append.1 (List.mem_of_getElem? hx) with h | h
    · exact one_map _ _ h
    · exact one_map _ _ h
noncomputable def code13p : Code := (Tryd.f4.body.bind (findR 13)).getD .skip
set_option maxRecDepth 1000000 in
set_option maxHeartbeats 16000000 in
theorem dup_piece {u0 u1 u2 u3 u4 u5 u6 u9 u10 u11 u12 u13 u14 u15 u16 u17 u18 u19 u20 u21 u22 u23 u24 u25 u26 u27 u28 u29 u30 u31 u32 u33 u34 u35 u36 u37 u38 u39 u40 u41 u42 u43 u44 u45 u46 u47 u48 u49 u50 u51 u52 u53 u54 u55 u56 u57 u58 u59 u60 u61 u62 u63 u64 u65 u66 u67 u68 u69 u70 u71 u72 u73 u74 u75 u76 u77 u78 u79 u80 u81 u82 u83 u84 u85 u86 u87 u88 u89 u90 u91 u92 u93 u94 u95 u96 u97 u98 u99 u100 u101 u102 u103 : Value} {g n cp i : Nat} {l : List Int} {V wr : World} (hr : RowB wr g cp l) (hn : l.length = n) (hin : i < n) (hc : n ≤ cp) (hcm : cp ≤ maxLen) (hn4 : n ≤ 4000) (hu : ∀ z ∈ l, u8k z) (hkV : Kept V wr) (hgV : V.heap.size ≤ g)
    (Q : Exit → Act → World → Prop) (hQ : ∀ (s60 s61 s62 s63 s64 s65 s66 s67 : Value) (A' : Option Addr) (c' : Nat) (h1 : n + 1 ≤ c') (h2 : c' ≤ maxLen) (w' : World), Kept V w' → Sl u8T w' (low w'.heap.size) A' (n + 1) (l.take (i + 1) ++ l.drop i) → Q .normal ⟨#[u0, u1, u2, u3, u4, u5, u6, (.slice A' (n + 1) c'), .int .i64 i, u9, u10, u11, u12, u13, u14, u15, u16, u17, u18, u19, u20, u21, u22, u23, u24, u25, u26, u27, u28, u29, u30, u31, u32, u33, u34, u35, u36, u37, u38, u39, u40, u41, u42, u43, u44, u45, u46, u47, u48, u49, u50, u51, u52, u53, u54, u55, u56, u57, u58, u59, s60, s61, s62, s63, s64, s65, s66, s67, u68, u69, u70, u71, u72, u73, u74, u75, u76, u77, u78, u79, u80, u81, u82, u83, u84, u85, u86, u87, u88, u89, u90, u91, u92, u93, u94, u95, u96, u97, u98, u99, u100, u101, u102, u103], []⟩ w') :
    Code.wp Tryd.prog (headC code13p) Q ⟨#[u0, u1, u2, u3, u4, u5, u6, .slice (some ⟨g, 0, none⟩) n cp, .int .i64 i, u9, u10, u11, u12, u13, u14, u15, u16, u17, u18, u19, u20, u21, u22, u23, u24, u25, u26, u27, u28, u29, u30, u31, u32, u33, u34, u35, u36, u37, u38, u39, u40, u41, u42, u43, u44, u45, u46, u47, u48, u49, u50, u51, u52, u53, u54, u55, u56, u57, u58, u59, u60, u61, u62, u63, u64, u65, u66, u67, u68, u69, u70, u71, u72, u73, u74, u75, u76, u77, u78, u79, u80, u81, u82, u83, u84, u85, u86, u87, u88, u89, u90, u91, u92, u93, u94, u95, u96, u97, u98, u99, u100, u101, u102, u103], []⟩ wr := by
  obtain ⟨i8, hi5, hz0, hz1, hz2⟩ := info_parts info5
  have hcm2 := hcm
  unfold maxLen at hcm2
  have HQ := hide hQ
  have Hr := hide hr
  have Hu := hide hu
  have Hn := hide hn
  have Hkw := hide hkV
  have Hcm := hide hcm
  have hii : (0 : Int) ≤ (i : Int) := by omega
  have hin2 : (i : Int) < (n : Int) := by omega
  clear hQ hr hu hn hkV hcm
  obtain ⟨j, hj⟩ : ∃ j, i + 1 = j := ⟨_, rfl⟩
  have hw1 : IntKind.i64.wrap ((i : Int) + 1) = (j : Int) := by rw [IntKind.wrap_i64]; omega
  have hge1 : (0 : Int) ≤ (j : Int) := by omega
  have hle1 : (j : Int) ≤ (n : Int) := by omega
  have hle2 : j ≤ n := by omega
  have Hj := hide hj
  have Hrd := hide (Hr.out.kept ((Below.refl _ wr).drew))
  clear hj
  conv => arg 2; whnf
  refine wp_region_noPanic ?_
  have hdl : (l.drop i).length = n - i := by rw [List.length_drop, Hn.out]
  have hd8 : ∀ z ∈ l.drop i, u8k z := fun z hz => Hu.out z (List.mem_of_mem_drop hz)
  have Hdl := hide hdl
  have Hd8 := hide hd8
  clear hdl hd8
  have hjlt : (j : Int) ≤ (cp : Int) := by omega
  have hile : (i : Int) ≤ (n : Int) := by omega
  have hcpi : ¬ cp = i := by omega
  by_cases hroom : n + 1 ≤ cp
  case pos =>
    have hsm2 : j + (n - i) ≤ cp := by have := Hj.out; omega
    have Hsp := hide (show ∀ j2, j2 < ((l.drop i).map (Value.int .u8)).length → (wr.drew.cell? ⟨g, 0 + j * 1 + j2, none⟩).isSome = true ∧ wr.drew.frozen? ⟨g, 0 + j * 1 + j2, none⟩ = false from fun j2 hj2 => by rw [Nat.mul_one, Nat.zero_add]; exact Hrd.out.spare (by rw [List.length_map, Hdl.out] at hj2; omega))
    have HQ2 : Hid (∀ (s60 s61 s62 s63 s64 s65 s66 s67 : Value), Q .normal ⟨#[u0, u1, u2, u3, u4, u5, u6, .slice (some ⟨g, 0, none⟩) (j + (n - i)) cp, .int .i64 i, u9, u10, u11, u12, u13, u14, u15, u16, u17, u18, u19, u20, u21, u22, u23, u24, u25, u26, u27, u28, u29, u30, u31, u32, u33, u34, u35, u36, u37, u38, u39, u40, u41, u42, u43, u44, u45, u46, u47, u48, u49, u50, u51, u52, u53, u54, u55, u56, u57, u58, u59, s60, s61, s62, s63, s64, s65, s66, s67, u68, u69, u70, u71, u72, u73, u74, u75, u76, u77, u78, u79, u80, u81, u82, u83, u84, u85, u86, u87, u88, u89, u90, u91, u92, u93, u94, u95, u96, u97, u98, u99, u100, u101, u102, u103], []⟩ (wr.drew.setCells g (0 + j * 1) ((l.drop i).map (Value.int .u8)))) := by
      have hput := Hrd.out.put (o := j) (t := l.drop i) (by have := Hn.out; omega) (by rw [Hdl.out]; exact hsm2) Hu.out Hd8.out
      rw [Hdl.out] at hput
      intro s60 s61 s62 s63 s64 s65 s66 s67
      rw [show j + (n - i) = n + 1 by have := Hj.out; omega]
      refine HQ.out s60 s61 s62 s63 s64 s65 s66 s67 _ _ hroom Hcm.out _ (setCells_kept hgV _ _ _ Hkw.out.drew) ?_
      rw [Nat.mul_one, Nat.zero_add]
      have e : j + (n - i) = n + 1 := by have := Hj.out; omega
      rw [e] at hput
      rw [← Hj.out] at hput ⊢
      exact hput
    have Htc := hide (tail_cells (lo := i) Hrd.out)
    clear HQ
    refine wp_region_any (by kernel_rfl) ?_
    refine wpAny_take (i := 0) (v := ?_) rfl (by kernel_rfl) (by kernel_rfl) (by kernel_rfl) (fun _ _ _ h => h) (Or.inl ⟨by kernel_rfl, ?_⟩) ?_
    rotate_left
    · intro w'
      first | (go_simp; done) | (go_simp; with_reducible rfl)
    try simp only [Act.put, List.getElem_toArray, List.getElem_cons_zero, List.getElem_cons_succ, List.setIfInBounds_toArray, List.set_cons_zero, List.set_cons_succ]
    refine wpAny_take (i := 1) (v := ?_) rfl (by kernel_rfl) (by kernel_rfl) (by kernel_rfl) (fun _ _ _ h => h) (Or.inl ⟨by kernel_rfl, ?_⟩) ?_
    rotate_left
    · intro w'
      first | (go_simp; done) | (go_simp; with_reducible rfl)
    try simp only [Act.put, List.getElem_toArray, List.getElem_cons_zero, List.getElem_cons_succ, List.setIfInBounds_toArray, List.set_cons_zero, List.set_cons_succ]
    refine wpAny_take (i := 4) (v := ?_) rfl (by kernel_rfl) (by kernel_rfl) (by kernel_rfl) (fun _ _ _ h => h) (Or.inl ⟨by kernel_rfl, ?_⟩) ?_
    rotate_left
    · intro w'
      first | (go_simp; done) | (go_simp; with_reducible rfl)
    try simp only [Act.put, List.getElem_toArray, List.getElem_cons_zero, List.getElem_cons_succ, List.setIfInBounds_toArray, List.set_cons_zero, List.set_cons_succ]
    refine wpAny_take (i := 5) (v := ?_) rfl (by kernel_rfl) (by kernel_rfl) (by kernel_rfl) (fun _ _ _ h => h) (Or.inl ⟨by kernel_rfl, ?_⟩) ?_
    rotate_left
    · intro w'
      first | (go_simp; done) | (go_simp; with_reducible rfl)
    try simp only [Act.put, List.getElem_toArray, List.getElem_cons_zero, List.getElem_cons_succ, List.setIfInBounds_toArray, List.set_cons_zero, List.set_cons_succ]
    refine wpAny_take (i := 2) (v := ?_) rfl (by kernel_rfl) (by kernel_rfl) (by kernel_rfl) (fun _ _ _ h => h) (Or.inl ⟨by kernel_rfl, ?_⟩) ?_
    rotate_left
    · intro w'
      first | (go_simp; done) | (go_simp; with_reducible rfl)
    try simp only [Act.put, List.getElem_toArray, List.getElem_cons_zero, List.getElem_cons_succ, List.setIfInBounds_toArray, List.set_cons_zero, List.set_cons_succ]
    refine wpAny_take (i := 3) (v := ?_) rfl (by kernel_rfl) (by kernel_rfl) (by kernel_rfl) (fun _ _ _ h => h) (Or.inl ⟨by kernel_rfl, ?_⟩) ?_
    rotate_left
    · intro w'
      first | (go_simp; done) | (go_simp; with_reducible rfl)
    try simp only [Act.put, List.getElem_toArray, List.getElem_cons_zero, List.getElem_cons_succ, List.setIfInBounds_toArray, List.set_cons_zero, List.set_cons_succ]
    refine wpAny_take (i := 6) (v := ?_) rfl (by kernel_rfl) (by kernel_rfl) (by kernel_rfl) (fun _ _ _ h => h) (Or.inl ⟨by kernel_rfl, ?_⟩) ?_
    rotate_left
    · intro w'
      first | (go_simp; done) | (go_simp; with_reducible rfl)
    try simp only [Act.put, List.getElem_toArray, List.getElem_cons_zero, List.getElem_cons_succ, List.setIfInBounds_toArray, List.set_cons_zero, List.set_cons_succ]
    refine wpAny_ready (rs := [7]) (by kernel_rfl) (by simp) ?_
    refine AllReady.cons rfl (fun K hK => ?_) AllReady.nil
    (refine step_append_room rfl (.tmp 63) (.tmp 66) 34 rfl 5 i8 1 Tryd.underlying34 hi5 hz1 g 0 j cp (by rfl) ⟨g, i, none⟩ (n - i) (cp - i) ((l.drop i).map (Value.int .u8)) (by rfl) (by rw [List.length_map, Hdl.out, Nat.mul_one]) Htc.out (one_map _) hsm2 (fun j2 hj2 => Hsp.out j2 hj2) ?_)
    refine hK _ _ ?_
    clear hK K
    try simp only [Act.put, List.getElem_toArray, List.getElem_cons_zero, List.getElem_cons_succ, List.setIfInBounds_toArray, List.set_cons_zero, List.set_cons_succ]
    refine wpAny_take (i := 8) (v := ?_) rfl (by kernel_rfl) (by kernel_rfl) (by kernel_rfl) (fun _ _ _ h => h) (Or.inl ⟨by kernel_rfl, ?_⟩) ?_
    rotate_left
    · intro w'
      first | (go_simp; done) | (go_simp; with_reducible rfl)
    try simp only [Act.put, List.getElem_toArray, List.getElem_cons_zero, List.getElem_cons_succ, List.setIfInBounds_toArray, List.set_cons_zero, List.set_cons_succ]
    refine wpAny_done (by kernel_rfl) ?_ _
    exact NoPanic.normal (HQ2.out _ _ _ _ _ _ _ _)
  case neg =>
    have hcn : cp = n := by omega
    have hfull : cp < j + (n - i) := by have := Hj.out; omega
    have hsm3 : j + (n - i) = n + 1 := by have := Hj.out; omega
    clear hcn
    have holds : ∀ j2 u, ((l.take j).map (Value.int .u8))[j2]? = some u → wr.drew.cell? ((⟨g, 0, none⟩ : Addr).add j2) = some u := by
      intro j2 u hu2
      have hj2 := (List.getElem?_eq_some_iff.1 hu2).1
      rw [List.length_map, List.length_take] at hj2
      rw [Addr.add_mid, Nat.zero_add, Hrd.out.cell (by omega)]
      rw [List.getElem?_map, List.getElem?_take_of_lt (by omega), byteAt_get (by omega)] at hu2
      exact hu2
    have Holds := hide holds
    have htl : ((l.take j).map (Value.int .u8)).length = j * 1 := by rw [List.length_map, List.length_take, Nat.mul_one]; have := Hn.out; omega
    have Htl := hide htl
    have Htc := hide (tail_cells (lo := i) Hrd.out)
    clear holds htl
    refine wp_region_any (by kernel_rfl) ?_
    refine wpAny_take (i := 0) (v := ?_) rfl (by kernel_rfl) (by kernel_rfl) (by kernel_rfl) (fun _ _ _ h => h) (Or.inl ⟨by kernel_rfl, ?_⟩) ?_
    rotate_left
    · intro w'
      first | (go_simp; done) | (go_simp; with_reducible rfl)
    try simp only [Act.put, List.getElem_toArray, List.getElem_cons_zero, List.getElem_cons_succ, List.setIfInBounds_toArray, List.set_cons_zero, List.set_cons_succ]
    refine wpAny_take (i := 1) (v := ?_) rfl (by kernel_rfl) (by kernel_rfl) (by kernel_rfl) (fun _ _ _ h => h) (Or.inl ⟨by kernel_rfl, ?_⟩) ?_
    rotate_left
    · intro w'
      first | (go_simp; done) | (go_simp; with_reducible rfl)
    try simp only [Act.put, List.getElem_toArray, List.getElem_cons_zero, List.getElem_cons_succ, List.setIfInBounds_toArray, List.set_cons_zero, List.set_cons_succ]
    refine wpAny_take (i := 4) (v := ?_) rfl (by kernel_rfl) (by kernel_rfl) (by kernel_rfl) (fun _ _ _ h => h) (Or.inl ⟨by kernel_rfl, ?_⟩) ?_
    rotate_left
    · intro w'
      first | (go_simp; done) | (go_simp; with_reducible rfl)
    try simp only [Act.put, List.getElem_toArray, List.getElem_cons_zero, List.getElem_cons_succ, List.setIfInBounds_toArray, List.set_cons_zero, List.set_cons_succ]
    refine wpAny_take (i := 5) (v := ?_) rfl (by kernel_rfl) (by kernel_rfl) (by kernel_rfl) (fun _ _ _ h => h) (Or.inl ⟨by kernel_rfl, ?_⟩) ?_
    rotate_left
    · intro w'
      first | (go_simp; done) | (go_simp; with_reducible rfl)
    try simp only [Act.put, List.getElem_toArray, List.getElem_cons_zero, List.getElem_cons_succ, List.setIfInBounds_toArray, List.set_cons_zero, List.set_cons_succ]
    refine wpAny_take (i := 2) (v := ?_) rfl (by kernel_rfl) (by kernel_rfl) (by kernel_rfl) (fun _ _ _ h => h) (Or.inl ⟨by kernel_rfl, ?_⟩) ?_
    rotate_left
    · intro w'
      first | (go_simp; done) | (go_simp; with_reducible rfl)
    try simp only [Act.put, List.getElem_toArray, List.getElem_cons_zero, List.getElem_cons_succ, List.setIfInBounds_toArray, List.set_cons_zero, List.set_cons_succ]
    refine wpAny_take (i := 3) (v := ?_) rfl (by kernel_rfl) (by kernel_rfl) (by kernel_rfl) (fun _ _ _ h => h) (Or.inl ⟨by kernel_rfl, ?_⟩) ?_
    rotate_left
    · intro w'
      first | (go_simp; done) | (go_simp; with_reducible rfl)
    try simp only [Act.put, List.getElem_toArray, List.getElem_cons_zero, List.getElem_cons_succ, List.setIfInBounds_toArray, List.set_cons_zero, List.set_cons_succ]
    refine wpAny_take (i := 6) (v := ?_) rfl (by kernel_rfl) (by kernel_rfl) (by kernel_rfl) (fun _ _ _ h => h) (Or.inl ⟨by kernel_rfl, ?_⟩) ?_
    rotate_left
    · intro w'
      first | (go_simp; done) | (go_simp; with_reducible rfl)
    try simp only [Act.put, List.getElem_toArray, List.getElem_cons_zero, List.getElem_cons_succ, List.setIfInBounds_toArray, List.set_cons_zero, List.set_cons_succ]
    refine wpAny_ready (rs := [7]) (by kernel_rfl) (by simp) ?_
    refine AllReady.cons rfl (fun K hK => ?_) AllReady.nil
    (refine step_append_grows rfl (.tmp 63) (.tmp 66) 34 rfl 5 i8 _ 1 1 Tryd.underlying34 hi5 hz0 hz1 hz2 rfl (by decide) (some ⟨g, 0, none⟩) j cp ((l.take j).map (Value.int .u8)) (by rfl) (fun h => by cases h) Htl.out (fun b hb => by cases hb; exact Holds.out) ⟨g, i, none⟩ (n - i) (cp - i) ((l.drop i).map (Value.int .u8)) (by rfl) (by rw [List.length_map, Hdl.out, Nat.mul_one]) Htc.out (one_map _) hfull (by unfold maxLen; omega) (by omega) ?_; intro v9 w9 hown9 hg9; obtain ⟨A9, c9, rfl, h91, h92⟩ := (own_u8' hown9).isSlice)
    refine hK _ _ ?_
    clear hK K
    try simp only [Act.put, List.getElem_toArray, List.getElem_cons_zero, List.getElem_cons_succ, List.setIfInBounds_toArray, List.set_cons_zero, List.set_cons_succ]
    refine wpAny_take (i := 8) (v := ?_) rfl (by kernel_rfl) (by kernel_rfl) (by kernel_rfl) (fun _ _ _ h => h) (Or.inl ⟨by kernel_rfl, ?_⟩) ?_
    rotate_left
    · intro w'
      first | (go_simp; done) | (go_simp; with_reducible rfl)
    try simp only [Act.put, List.getElem_toArray, List.getElem_cons_zero, List.getElem_cons_succ, List.setIfInBounds_toArray, List.set_cons_zero, List.set_cons_succ]
    refine wpAny_done (by kernel_rfl) ?_ _
    (
      have hown2 := hown9
      rw [← List.map_append] at hown2
      have how := own_u8 hown2 (fun z hz => (List.mem_append.1 hz).elim (fun h => Hu.out z (List.mem_of_mem_take h)) (fun h => Hd8.out z h))
      have hsl := how.sl
      rw [hsm3, ← Hj.out] at hsl
      have hk9 : Kept V w9 := Hkw.out.drew.trans ((Below.refl _ _).grown hg9 (by exact Hkw.out.drew.size) (fun k hk => by cases hk))
      refine NoPanic.normal ?_
      rw [hsm3]
      exact HQ.out _ _ _ _ _ _ _ _ _ _ (by omega) h92 _ hk9 hsl)
end Go.Proofs.YtjgncofhobhjdaaDoor
