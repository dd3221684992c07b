
import Derived.Shelf.Abstract
import Derived.Shelf.RegionOpen
import Derived.WalkKit
import Derived.OwnWalkIn
import Derived.TacticsInMore
import Derived.LoopNIn
import Derived.LoopIn
import Derived.Maps.AppendAt
import Derived.Test.YtdkinfglpnajmaaChecked



/- Scatter: the memory that it returns. -/
import Derived.Test.YtdkinfglpnajmaaGt
set_option linter.unusedVariables false
set_option linter.unusedSimpArgs false
set_option linter.unusedSectionVars false
namespace Go.Proofs.Ytdkinfglpnajmaa
open Go.RowKit Go.Shelf

attribute [local go_sem] Oper.semAt_some

theorem scat_step {ms ds m' : List UInt8} {pre : List Pc} {x : Pc} {a e : Nat} (ha : x.pos = a) (he : x.len = e) (hm : m' = scat ms (places pre) ds) (hfit : a + e ≤ m'.length) (hlen : (places pre).length + e ≤ ds.length) :
    scat ms (places (pre ++ [x])) ds = m'.take a ++ (ds.drop (places pre).length).take e ++ m'.drop (a + ((ds.drop (places pre).length).take e).length) := by
  have h1 : scat ms (places pre) (ds.take (places pre).length) = scat ms (places pre) ds := by
    have h := scat_split (places pre).length (places pre) ms ds
    rw [List.take_length, List.drop_length, scat_nil] at h
    exact h
  have hle : e ≤ (ds.drop (places pre).length).length := by rw [List.length_drop]; omega
  rw [places_append, scat_append, h1, ← hm, places_cons, places_nil, List.append_nil]
  have h2 := scat_piece e a m' (ds.drop (places pre).length) hfit hle
  have hx : x = ⟨(a : Int), (e : Int)⟩ := by cases x; simp at ha he; rw [ha, he]
  rw [hx]
  have h3 := scat_split e (pl ⟨(a : Int), (e : Int)⟩) m' (ds.drop (places pre).length)
  have h4 : (pl ⟨(a : Int), (e : Int)⟩).length = e := by rw [pl_len]; simp
  have h5 : (pl ⟨(a : Int), (e : Int)⟩).take e = pl ⟨(a : Int), (e : Int)⟩ := List.take_of_length_le (by omega)
  have h6 : (pl ⟨(a : Int), (e : Int)⟩).drop e = [] := List.drop_eq_nil_of_le (by omega)
  rw [h5, h6, scat_nil] at h3
  rw [← h3, h2, List.length_take, Nat.min_eq_left hle]
theorem win_upto {l : List Pc} {t : Int} (h : okL l) (ht : 0 ≤ t) : total (win 0 0 t l) ≤ t := by
  have h1 := places_len (win_ok 0 0 t h)
  rw [win_places 0 0 t h] at h1
  have h3 : (List.drop (0 - 0 : Int).toNat (List.take (t - 0).toNat (places l))).length ≤ (t - 0).toNat := by simp; omega
  omega
theorem scat_all {l : List Pc} {ms ds : List UInt8} (h : okL l) : scat ms (places (win 0 0 ds.length l)) ds = scat ms (places l) ds := by
  rw [win_places 0 0 _ h]
  simp only [Int.sub_zero, Int.toNat_natCast, Int.sub_self, Int.toNat_zero, List.drop_zero]
  exact scat_take _ _ _ _ (Nat.le_refl _)
theorem places_total {l : List Pc} (h : okL l) : (places l).length = (total l).toNat := by
  have := places_len h
  omega
set_option maxRecDepth 100000 in
set_option maxHeartbeats 4000000 in
theorem scat_ok (gm : Nat) (ms : List UInt8) (A D : Option Addr) (q d n c nd cd : Nat) (ds : List UInt8) (l : List Pc) (w : World) (hl : Sl pcT w (low w.heap.size) A n l) (hM : Bs w gm 0 ms) (hqm : ms.length = q) (hq : q ≤ 100000) (h0 : chk l q = 0) (hd : (places l).Nodup)
    (hD : Sl u8T w (low w.heap.size) D nd ds) (hnd : nd ≤ cd) (hw : nd ≤ total l) :
    Calls Try.prog 17 #[.slice (some ⟨gm, 0, none⟩) q d, .slice A n c, .slice D nd cd] w fun e w' => ∃ g, e = .returned (.tuple #[.slice (some ⟨g, 0, none⟩) q q, .int .i64 0]) ∧ w.heap.size ≤ g ∧ g < w'.heap.size ∧ w'.heap[g]? = some (.cells (u8C (scat ms (places l) ds)).toArray 5 (0, 0)) ∧ Kept w w' := by
  have hk0 : Kept w (w.alloc (.cells #[.slice D nd cd] 29)) := (Below.refl _ w).alloc (Nat.le_refl _) _
  have hp := chk_parts h0
  have hok : okL l := fun p hp' => ⟨(hp.2.1 p hp').1, (hp.2.1 p hp').2.1⟩
  have hm : n ≤ 256 := by have := hl.1; omega
  have hC := check_any A n c l q _ (hl.kept hk0) (pc_64 h0 (by unfold i64; omega)) (by unfold i64; omega) (by omega)
  have hO : ∀ w', Kept w w' → _ := fun w' hk => overlaps_any sortNone A n c l q w' (hl.kept hk) h0 (by omega)
  have hT : ∀ w', Kept w w' → _ := fun w' hk => total_any A n c l w' (hl.kept hk) hok hp.2.2 (by omega)
  have ht0 := total_nonneg hok
  have ht1 := hp.2.2
  rw [h0] at hC
  have hnl := Lib.hid hD.1
  have Hall := Lib.hid (scat_all (ms := ms) (ds := ds) hok)
  have hlw : ∀ W, Below w.heap.size w W → Sl pcT W (low w.heap.size) A n l := fun W hW => hl.below hW
  have hposL := Lib.hid (win_posL 0 0 (nd : Int) hok)
  have hbd := Lib.hid (fun x hx => (win_le_pos hp.2.1 (a := 0) (f := 0) (t := (nd : Int)) x hx))
  have htw := Lib.hid (win_upto (t := (nd : Int)) hok (by omega))
  have hwinL : ∀ (w7 w8 : World), boxes w7 A n c 0 (nd : Int) = w8 → Below w.heap.size w w8 → w.heap.size ≤ w8.heap.size → Window 3 #[.pointer (some ⟨w7.heap.size, 0, none⟩), .pointer (some ⟨w7.heap.size + 1, 0, none⟩), .pointer (some ⟨w7.heap.size + 1 + 1, 0, none⟩)] (win 0 0 (nd : Int) l) w.heap.size (w7.heap.size + 1) (w7.heap.size + 1 + 1) w8 := fun w7 w8 h hb hs => by
    obtain ⟨hBl, hBf, hBt, hz, hbw⟩ := boxes_at w7 A n c 0 (nd : Int) w8 h
    exact win_window 3 (by decide) A n c l 0 (nd : Int) w7.heap.size (w7.heap.size + 1) (w7.heap.size + 1 + 1) w.heap.size w8 hok ht1 (by omega) (by omega) (by omega) (by omega) (fun p hp' => by have := (hp.2.1 p hp').2.2; omega) hm hs (hlw w8 hb) hBl hBf hBt
  have hnd6 : (nd : Int) ≤ 65536 := by omega
  clear hp h0 hok hl
  refine callsIn_wide (n := 4).1 (callsIn_of_wp_marks Try.func17 rfl trivial ?_ rfl)
  (simp only [Try.ntmps17, List.size_toArray, List.length_cons, List.length_nil, Nat.reduceAdd, Nat.reduceSub, Array.replicate_succ, Array.replicate_zero, List.push_toArray, List.append_toArray, List.nil_append, List.cons_append])
  gi_wp2_with (first
    | (refine ⟨trivial, ?_⟩; gi_at_call 15; refine (callsIn_wide.2 hC).mono ?_; rintro e w1 ⟨rfl, hk1⟩)
    | (refine ⟨trivial, ?_⟩; gi_at_call 27; refine (callsIn_wide.2 (hO _ (hk0.trans' hk1))).mono ?_; rintro e w2 ⟨b, rfl, hb, hk2⟩; obtain rfl : b = false := Bool.eq_false_iff.2 (fun h => hb.out.1 h hd)))
  have hk02 : Kept w w2 := (hk0.trans' hk1).trans' hk2
  have hD2 := heap_below (hk1.trans' hk2) (heap_at (w := w) (.cells #[.slice D nd cd] 29) rfl) (by simp)
  have hcD := cell_heap (o := 0) hD2 rfl
  have hlD := heap_lt hD2
  generalize total l = T at *
  have hmk := fun W => makeQ q hq W
  refine wide_of_only ?_
  refine wp_region_held_drew (S := fun w' => (∀ b o, b < w2.heap.size → w'.cell? ⟨b, o, none⟩ = w2.cell? ⟨b, o, none⟩) ∧ Kept w2 w') (by kernel_rfl) ⟨fun _ _ _ => rfl, (Below.refl _ w2).drew⟩ (fun hS => ?_)
  refine wpAnyH_take (i := 0) (v := ?_) rfl (by kernel_rfl) (by kernel_rfl) (by kernel_rfl) (fun _ _ _ h => h) (Or.inl ⟨by kernel_rfl, ?_⟩) hS ?_
  rotate_left
  · intro w' hS'
    have hq := hS'.1
    have hq2 := hS'.2
    clear hS'
    first | (go_simp; done) | (go_simp; with_reducible rfl)
  try simp only [Act.put, List.getElem_toArray, List.getElem_cons_zero, List.getElem_cons_succ, List.setIfInBounds_toArray, List.set_cons_zero, List.set_cons_succ]
  refine wpAnyH_take (i := 1) (v := ?_) rfl (by kernel_rfl) (by kernel_rfl) (by kernel_rfl) (fun _ _ _ h => h) (Or.inl ⟨by kernel_rfl, ?_⟩) hS ?_
  rotate_left
  · intro w' hS'
    have hq := hS'.1
    have hq2 := hS'.2
    clear hS'
    first | (go_simp; done) | (go_simp; with_reducible rfl)
  try simp only [Act.put, List.getElem_toArray, List.getElem_cons_zero, List.getElem_cons_succ, List.setIfInBounds_toArray, List.set_cons_zero, List.set_cons_succ]
  refine wpAnyH_take (i := 2) (v := ?_) rfl (by kernel_rfl) (by kernel_rfl) (by kernel_rfl) (fun _ _ _ h => h) (Or.inl ⟨by kernel_rfl, ?_⟩) hS ?_
  rotate_left
  · intro w' hS'
    have hq := hS'.1
    have hq2 := hS'.2
    clear hS'
    first | (go_simp; done) | (go_simp; with_reducible rfl)
  try simp only [Act.put, List.getElem_toArray, List.getElem_cons_zero, List.getElem_cons_succ, List.setIfInBounds_toArray, List.set_cons_zero, List.set_cons_succ]
  refine wpAnyH_ready (rs := [3]) (by kernel_rfl) (by simp) ?_
  refine AllReadyH.cons rfl (fun K hK => ?_) AllReadyH.nil
  go_simp
  go_at_call 25
  refine (hT _ (hk02.trans' hS.2)).mono ?_
  rintro e3 w3 ⟨rfl, hk3⟩
  try dsimp only
  refine hK.out _ _ ?_ (fun hS => ?_)
  · exact ⟨fun b o hb => (Below.cell (p := ⟨b, o, none⟩) (hk3.mono hS.2.size) hb).trans (hS.1 b o hb), hS.2.trans' hk3⟩
  clear hK K
  try simp only [Act.put, List.getElem_toArray, List.getElem_cons_zero, List.getElem_cons_succ, List.setIfInBounds_toArray, List.set_cons_zero, List.set_cons_succ]
  refine wpAnyH_take (i := 4) (v := ?_) rfl (by kernel_rfl) (by kernel_rfl) (by kernel_rfl) (fun _ _ _ h => h) (Or.inl ⟨by kernel_rfl, ?_⟩) hS ?_
  rotate_left
  · intro w' hS'
    have hq := hS'.1
    have hq2 := hS'.2
    clear hS'
    first | (go_simp; done) | (go_simp; with_reducible rfl)
  try simp only [Act.put, List.getElem_toArray, List.getElem_cons_zero, List.getElem_cons_succ, List.setIfInBounds_toArray, List.set_cons_zero, List.set_cons_succ]
  refine wpAnyH_take (i := 5) (v := ?_) rfl (by kernel_rfl) (by kernel_rfl) (by kernel_rfl) (fun _ _ _ h => h) (Or.inl ⟨by kernel_rfl, ?_⟩) hS ?_
  rotate_left
  · intro w' hS'
    have hq := hS'.1
    have hq2 := hS'.2
    clear hS'
    first | (go_simp; done) | (go_simp; with_reducible rfl)
  try simp only [Act.put, List.getElem_toArray, List.getElem_cons_zero, List.getElem_cons_succ, List.setIfInBounds_toArray, List.set_cons_zero, List.set_cons_succ]
  refine wpAnyH_done (by kernel_rfl) ?_ _
  refine onlyN_intro ?_
  refine exit_at (fun W => Below (w.alloc (.cells #[.slice D nd cd] 29)).heap.size (w.alloc (.cells #[.slice D nd cd] 29)) W) ((hk1.trans' hk2).trans' hS.2) (fun W6 hk6 => ?_)
  have hD6 := heap_below hk6 (heap_at (w := w) (.cells #[.slice D nd cd] 29) rfl) (by simp)
  have hcD6 := cell_heap (o := 0) hD6 rfl
  have hlD6 := heap_lt hD6
  have kW6 : Kept w W6 := hk0.trans' hk6
  clear hS hk3 hD2 hcD hlD hk1 hk2 hk02 hb
  have hrep : u8C (List.replicate q (0 : UInt8)) = List.replicate q (.int .u8 0) := by simp [u8C]
  have hM6 := hM.kept kW6
  clear hC hO hT hk6 hk0
  have hg0 : ((W6.alloc (.cells (Array.replicate q (.int .u8 0)) 5)).alloc (.cells #[.slice (some ⟨W6.heap.size, 0, none⟩) q q] 29)).heap[W6.heap.size]? = some (.cells (u8C (List.replicate q (0 : UInt8))).toArray 5 (0, 0)) := by
    rw [hrep, List.toArray_replicate]
    exact heap_past (heap_at _ rfl)
  have hkA : Kept W6 ((W6.alloc (.cells (Array.replicate q (.int .u8 0)) 5)).alloc (.cells #[.slice (some ⟨W6.heap.size, 0, none⟩) q q] 29)) := ((Below.refl _ W6).alloc (Nat.le_refl _) _).alloc (by simp) _
  obtain ⟨w7, hrun, hcp1, hcp2, hcp3, hcp4⟩ := copy_run ((W6.alloc (.cells (Array.replicate q (.int .u8 0)) 5)).alloc (.cells #[.slice (some ⟨W6.heap.size, 0, none⟩) q q] 29)) 3 (some ⟨W6.heap.size, 0, none⟩) (some ⟨gm, 0, none⟩) q q q d W6.heap.size 0 (u8C (List.replicate q (0 : UInt8))) (u8C ms) hg0 (by simp [u8C, hqm]) (fun _ => ⟨rfl, _, rfl, fun j v hv => by
    unfold u8C at hv
    rw [List.getElem?_map, Option.map_eq_some_iff] at hv
    obtain ⟨x, hx, rfl⟩ := hv
    rw [Addr.add_mid]
    exact (hM6.kept hkA).2 j x hx⟩) (by simp [u8C, hqm]) (fun u hu => by
    obtain ⟨x, _, rfl⟩ := List.mem_map.1 hu
    rfl)
  have hcl : (u8C ms).length = q := by simp [u8C, hqm]
  rw [hcl] at hrun
  rw [u8C_splice, show (List.replicate q (0 : UInt8)).take 0 ++ ms ++ (List.replicate q (0 : UInt8)).drop (0 + ms.length) = ms by simp [hqm]] at hcp1
  have hk7 : Kept W6 w7 := hcp4 W6.heap.size W6 (Nat.le_refl _) hkA
  have hO7 : w7.heap[W6.heap.size + 1]? = some (.cells #[.slice (some ⟨W6.heap.size, 0, none⟩) q q] 29 (0, 0)) := (hcp2 _ (by omega)).trans (heap_at _ (by simp))
  have hD7 := heap_below hk7 hD6 hlD6
  have hcD7 := cell_heap (o := 0) hD7 rfl
  have hz7 : w7.heap.size = W6.heap.size + 1 + 1 := by rw [hcp3]; simp
  clear hg0 hkA hcp2 hcp3 hcp4
  replace hz7 := Lib.hid hz7
  gi_wp2_with (refine ⟨trivial, ?_⟩; gi_at_call 28; refine (callsIn_wide.2 (window_any A n c 0 (nd : Int) _)).mono ?_; rintro e w8 ⟨rfl, hw8⟩)
  obtain ⟨hBl, hBf, hBt, hz8, hb8⟩ := boxes_at w7 A n c 0 (nd : Int) w8 hw8
  have hW6s := kW6.size
  have hb78 : Kept W6 w8 := hk7.trans' hb8
  have kw8 : Kept w w8 := kW6.trans' hb78
  have hwin := hwinL w7 w8 hw8 kw8 kw8.size
  have hO8 := heap_below hb8 hO7 (heap_lt hO7)
  have hg8 := heap_below hb8 hcp1 (heap_lt hcp1)
  have hD8 := heap_below hb78 hD6 hlD6
  have hDs8 := hD.below kw8
  clear hwinL hlw hw8 hBl hO7 hcp1 hD7 hcD7 hD6 hcD6 hlD6 hM6 hrun hmk hb78 hM hD
  have hnl' := hnl.out
  generalize hL : win 0 0 (nd : Int) l = L at *
  replace hL := Lib.hid hL
  refine range_win (by rfl) hwin (by have := kw8.size; omega) (by omega) (by omega) (ScatI w w.heap.size (W6.heap.size + 1) W6.heap.size q (w7.heap.size + 1) (w7.heap.size + 1 + 1) [.int .i64 0] [.int .i64 (nd : Int)] ms ds) (scatI_own (by have := kw8.size; omega))
    ⟨⟨D, 0, cd, rfl, by rw [Nat.sub_zero, hnl']; exact hD8, by omega, by rw [Nat.sub_zero, hnl', List.drop_zero]; exact hDs8⟩, hO8, by rw [places_nil, scat_nil]; exact hg8, hBf, hBt, kw8⟩
    (fun x Bp => { tmps := #[.slice (some ⟨gm, 0, none⟩) q d, .slice A n c, .slice D nd cd, undef, undef, .pointer (some ⟨w.heap.size, 0, none⟩), .slice none 0 0, .int .i64 0, .int .i64 0, .pointer (some ⟨W6.heap.size + 1, 0, none⟩), .pointer (some ⟨Bp, 0, none⟩), .slice A n c, .slice (some ⟨gm, 0, none⟩) q d, .int .i64 (q : Nat), .int .i64 0, .bool false, .int .i64 0, .bool false, undef, .bool false, .slice A n c, .bool false, .bool (decide (T < (nd : Int))), .slice D nd cd, .int .i64 (nd : Nat), .slice A n c, .int .i64 T, .bool (decide (T < (nd : Int))), .slice (some ⟨gm, 0, none⟩) q d, .int .i64 (q : Nat), .slice (some ⟨W6.heap.size, 0, none⟩) q q, .slice (some ⟨W6.heap.size, 0, none⟩) q q, .slice (some ⟨gm, 0, none⟩) q d, .int .i64 (q : Nat), .slice A n c, .slice D nd cd, .int .i64 (nd : Nat), .func (.func 32) #[] #[.pointer (some ⟨w7.heap.size, 0, none⟩), .pointer (some ⟨w7.heap.size + 1, 0, none⟩), .pointer (some ⟨w7.heap.size + 1 + 1, 0, none⟩)], .agg #[.int .i64 x.pos, .int .i64 x.len], undef, undef, undef, undef, undef, undef, undef, undef, undef, undef, undef, undef, undef], defers := [] }) ?assign ?body ?done
  case assign =>
    intro l x W K hK
    gi_wp2
    exact hK
  case body =>
    rintro l pre x W₀ W hB₀ _ ⟨⟨D', k, c', hk, hD, hkc, hDs⟩, hO, hg, hF, hT, hB⟩ _ hbp hpre
    have hxm : x ∈ L := hpre.subset (by simp)
    have hxp := hposL.out x hxm
    have hxq := hbd.out x hxm
    have htp := total_pre hposL.out hpre
    have ht2 := htw.out
    have hprL : posL pre := posL_pre hposL.out ((List.prefix_append pre [x]).trans hpre)
    have hpt := places_total hprL.ok
    have htn := total_nonneg hprL.ok
    rw [total_append, total_cons] at htp
    have htz : total ([] : List Pc) = 0 := rfl
    obtain ⟨a, ha⟩ : ∃ a : Nat, x.pos = (a : Int) := ⟨x.pos.toNat, by omega⟩
    obtain ⟨e, he⟩ : ∃ e : Nat, x.len = (e : Int) := ⟨x.len.toNat, by omega⟩
    have hae : a + e ≤ q := by omega
    have hke : k + e ≤ nd := by omega
    have hml : (scat ms (places pre) ds).length = q := by rw [scat_len, hqm]
    have hstep := Lib.hid (scat_step (ms := ms) (ds := ds) (m' := scat ms (places pre) ds) (pre := pre) ha he rfl (by omega) (by rw [hpt, ← hk]; omega))
    rw [hpt, ← hk] at hstep
    have hk2 := Lib.hid (show (total (pre ++ [x])).toNat = k + e by rw [total_append, total_cons, htz]; omega)
    rw [hnl'] at hD hkc hDs
    rw [ha, he] at hbp
    replace hk := Lib.hid hk
    replace hpt := Lib.hid hpt
    have hp0 : W.cell? ⟨W₀.heap.size, 0, none⟩ = some (.int .i64 (a : Int)) := cell_heap hbp rfl
    have hp1 : W.cell? ⟨W₀.heap.size, 1, none⟩ = some (.int .i64 (e : Int)) := cell_heap hbp rfl
    have hp2 := heap_lt hbp
    have hcO := hO.cell
    have hlO := hO.lt
    have hcD := hD.cell
    have hlD := hD.lt
    have hfD := hD.frozen
    have hlg := heap_lt hg
    have hne1 : W₀.heap.size ≠ W6.heap.size := by have := hz7.out; omega
    have hne2 : w.heap.size ≠ W6.heap.size := fun e => by
      have h := hD
      unfold Boxed at h
      rw [e, hg] at h
      injection h with h
      injection h with h1 h2
      cases h2
    obtain ⟨off', hoff, hsl⟩ := slice_run W6.heap.size q q a e hae
    have hsl1 := fun W => (hsl W).1
    have hsl2 := fun W => (hsl W).2
    obtain ⟨D2, htl, htr⟩ := dtail D' (nd - k) c' e (by omega) hkc
    have htl1 := fun W => (htl W).1
    have htl2 := fun W => (htl W).2
    clear hsl htl
    gi_wp2
    refine region_round (S := fun w' => (∀ b o, b < W.heap.size → b ≠ W6.heap.size → w'.cell? ⟨b, o, none⟩ = W.cell? ⟨b, o, none⟩) ∧ True) (by kernel_rfl) (by kernel_rfl) (by rintro ⟨a0, w0, h⟩; have h' : Exit.outgrown = Exit.normal := h.1; cases h') ⟨fun _ _ _ _ => rfl, trivial⟩ (fun hS => ?_)
    refine wpAnyH_take (i := 0) (v := ?_) rfl (by kernel_rfl) (by kernel_rfl) (by kernel_rfl) (fun _ _ _ h => h) (Or.inl ⟨by kernel_rfl, ?_⟩) hS ?_
    rotate_left
    · intro w' hS'
      have hq := hS'.1
      have hq2 := hS'.2
      clear hS'
      first | (go_simp; done) | (go_simp; with_reducible rfl)
    try simp only [Act.put, List.getElem_toArray, List.getElem_cons_zero, List.getElem_cons_succ, List.setIfInBounds_toArray, List.set_cons_zero, List.set_cons_succ]
    refine wpAnyH_take (i := 1) (v := ?_) rfl (by kernel_rfl) (by kernel_rfl) (by kernel_rfl) (fun _ _ _ h => h) (Or.inl ⟨by kernel_rfl, ?_⟩) hS ?_
    rotate_left
    · intro w' hS'
      have hq := hS'.1
      have hq2 := hS'.2
      clear hS'
      first | (go_simp; done) | (go_simp; with_reducible rfl)
    try simp only [Act.put, List.getElem_toArray, List.getElem_cons_zero, List.getElem_cons_succ, List.setIfInBounds_toArray, List.set_cons_zero, List.set_cons_succ]
    refine wpAnyH_take (i := 2) (v := ?_) rfl (by kernel_rfl) (by kernel_rfl) (by kernel_rfl) (fun _ _ _ h => h) (Or.inl ⟨by kernel_rfl, ?_⟩) hS ?_
    rotate_left
    · intro w' hS'
      have hq := hS'.1
      have hq2 := hS'.2
      clear hS'
      first | (go_simp; done) | (go_simp; with_reducible rfl)
    try simp only [Act.put, List.getElem_toArray, List.getElem_cons_zero, List.getElem_cons_succ, List.setIfInBounds_toArray, List.set_cons_zero, List.set_cons_succ]
    refine wpAnyH_take (i := 3) (v := ?_) rfl (by kernel_rfl) (by kernel_rfl) (by kernel_rfl) (fun _ _ _ h => h) (Or.inl ⟨by kernel_rfl, ?_⟩) hS ?_
    rotate_left
    · intro w' hS'
      have hq := hS'.1
      have hq2 := hS'.2
      clear hS'
      first | (go_simp; done) | (go_simp; with_reducible rfl)
    try simp only [Act.put, List.getElem_toArray, List.getElem_cons_zero, List.getElem_cons_succ, List.setIfInBounds_toArray, List.set_cons_zero, List.set_cons_succ]
    refine wpAnyH_take (i := 6) (v := ?_) rfl (by kernel_rfl) (by kernel_rfl) (by kernel_rfl) (fun _ _ _ h => h) (Or.inl ⟨by kernel_rfl, ?_⟩) hS ?_
    rotate_left
    · intro w' hS'
      have hq := hS'.1
      have hq2 := hS'.2
      clear hS'
      first | (go_simp; done) | (go_simp; with_reducible rfl)
    try simp only [Act.put, List.getElem_toArray, List.getElem_cons_zero, List.getElem_cons_succ, List.setIfInBounds_toArray, List.set_cons_zero, List.set_cons_succ]
    refine wpAnyH_ready (rs := [4]) (by kernel_rfl) (by simp) ?_
    refine AllReadyH.cons rfl (fun K hK => ?_) AllReadyH.nil
    go_simp
    go_at_call 26
    refine (end_exact (a : Int) (e : Int) _ (by omega) (by omega) (by omega)).mono ?_
    rintro e9 w9 ⟨rfl, rfl⟩
    try dsimp only
    refine hK.out _ _ ?_ (fun hS => ?_)
    · exact ⟨fun b o hb hne => World.cell?_of_block (a := ⟨b, o, none⟩) (Below.heap_alloc W.drew _ b hb), trivial⟩
    clear hK K
    try simp only [Act.put, List.getElem_toArray, List.getElem_cons_zero, List.getElem_cons_succ, List.setIfInBounds_toArray, List.set_cons_zero, List.set_cons_succ]
    refine wpAnyH_take (i := 5) (v := ?_) rfl (by kernel_rfl) (by kernel_rfl) (by kernel_rfl) (fun _ _ _ h => h) (Or.inl ⟨by kernel_rfl, ?_⟩) hS ?_
    rotate_left
    · intro w' hS'
      have hq := hS'.1
      have hq2 := hS'.2
      clear hS'
      first | (go_simp; done) | (go_simp; with_reducible rfl)
    try simp only [Act.put, List.getElem_toArray, List.getElem_cons_zero, List.getElem_cons_succ, List.setIfInBounds_toArray, List.set_cons_zero, List.set_cons_succ]
    refine wpAnyH_ready (rs := [7]) (by kernel_rfl) (by simp) ?_
    refine AllReadyH.cons rfl (fun K hK => ?_) AllReadyH.nil
    have hb9 : Below w.heap.size W (W.drew.alloc (.cells #[.int .i64 (a : Int), .int .i64 (e : Int)] 44)) := (Below.refl _ W).drew.alloc hB.size _
    have hs9 := hDs.below hb9
    have hel : (u8C ((ds.drop k).take e)).length = e := by
      unfold u8C
      rw [List.length_map, List.length_take, List.length_drop]
      omega
    refine step_copy_at (by rfl) (.tmp 44) (.tmp 45) (by rfl) (some ⟨W6.heap.size, off', none⟩) D' e (q - a) (nd - k) c' (by rfl) (by rfl) W6.heap.size a (u8C (scat ms (places pre) ds)) ((Below.heap_alloc W.drew (.cells #[.int .i64 (a : Int), .int .i64 (e : Int)] 44) W6.heap.size hlg).trans hg) (u8C ((ds.drop k).take e)) (by rw [hel]; exact (Nat.min_eq_right (by omega)).symm) (fun hpos => ⟨by
      rw [hel] at hpos
      rcases hoff with h | h
      · rw [h]
      · omega, u8_src hs9 e hpos⟩) (by rw [hel]; simp [u8C, hml]; omega) (fun u hu => by
      obtain ⟨x, _, rfl⟩ := List.mem_map.1 hu
      rfl) ?_
    rintro w10 ⟨hcp1, hcp2, hcp3, hcp4⟩
    rw [u8C_splice, ← hstep.out] at hcp1
    have hoth : ∀ b, b < W.heap.size → b ≠ W6.heap.size → w10.heap[b]? = W.heap[b]? := fun b hb hne => (hcp2 b hne).trans (Below.heap_alloc W.drew (.cells #[.int .i64 (a : Int), .int .i64 (e : Int)] 44) b hb)
    have hsz10 : W.heap.size ≤ w10.heap.size := by
      rw [hcp3]
      simp
    refine hK.out _ _ ?_ (fun hS => ?_)
    · exact ⟨fun b o hb hne => World.cell?_of_block (a := ⟨b, o, none⟩) (hoth b hb hne), trivial⟩
    clear hK K
    try simp only [Act.put, List.getElem_toArray, List.getElem_cons_zero, List.getElem_cons_succ, List.setIfInBounds_toArray, List.set_cons_zero, List.set_cons_succ]
    refine wpAnyH_done (by kernel_rfl) ?_ _
    have hB10 := hcp4 w.heap.size W hW6s hb9
    clear hcp2 hcp3 hcp4 hS hs9 hb9
    have hD10 : Boxed w10 w.heap.size 29 (.slice D' (nd - k) c') := (hoth _ hlD hne2).trans hD
    have hO10 : Boxed w10 (W6.heap.size + 1) 29 (.slice (some ⟨W6.heap.size, 0, none⟩) q q) := (hoth _ hlO (by omega)).trans hO
    have hp10 := (hoth _ hp2 hne1).trans hbp
    have hF10 := (hoth _ (heap_lt hF) (by have := hz7.out; omega)).trans hF
    have hT10 := (hoth _ (heap_lt hT) (by have := hz7.out; omega)).trans hT
    have hq1 : w10.cell? ⟨W₀.heap.size, 1, none⟩ = some (.int .i64 (e : Int)) := cell_heap hp10 rfl
    have hq2 := heap_lt hp10
    have hcD10 := hD10.cell
    have hfD10 := hD10.frozen
    have hlD10 := hD10.lt
    have hDs2 := Lib.hid (htr W _ _ hDs)
    clear hcD hcO hp0 hp1 hfD htr
    gi_wp2
    have hz7' := hz7.out
    have hlen2 : ds.length - (k + e) = nd - k - e := by omega
    have hBd : Below w.heap.size W (w10.setCell ⟨w.heap.size, 0, none⟩ (.slice D2 (nd - k - e) (c' - e))) := hB10.setCell (p := ⟨w.heap.size, 0, none⟩) (Nat.le_refl _) _
    have hF11 := heap_other (a := ⟨w.heap.size, 0, none⟩) (v := .slice D2 (nd - k - e) (c' - e)) hF10 (by simp only; omega)
    have hT11 := heap_other (a := ⟨w.heap.size, 0, none⟩) (v := .slice D2 (nd - k - e) (c' - e)) hT10 (by simp only; omega)
    have hkf : KeepsFrom (w7.heap.size + 1 + 1 + 1) W w10 := ⟨hsz10, fun k o _ hk ho => (hoth k (heap_lt hk) (fun e => by
      subst e
      rw [hg] at hk
      cases hk
      cases ho)).trans hk⟩
    refine ⟨hkf.trans ((KeepsOthers.setCell _ _ _).from _), ⟨hBd, hF11.trans hF.symm, hT11.trans hT.symm⟩, ⟨D2, k + e, c' - e, hk2.out.symm, ?_, by omega, ?_⟩, heap_other (a := ⟨w.heap.size, 0, none⟩) (v := .slice D2 (nd - k - e) (c' - e)) hO10 (by simp only; omega), heap_other (a := ⟨w.heap.size, 0, none⟩) (v := .slice D2 (nd - k - e) (c' - e)) hcp1 hne2.symm, hF11, hT11, hB.trans hBd⟩
    · rw [hlen2]
      exact hD10.set _
    · rw [hlen2, ← List.drop_drop]
      exact hDs2.out.below hBd
  case done =>
    rintro D0 W hD0 ⟨_, hO, hg, _, _, hB⟩ hK
    have hc := hO.cell
    have hkk := hB.trans (belowK_b (w := w) (Nat.le_refl _) W D0 _ (.deferred none) (by have := kw8.size; omega) hK rfl rfl)
    have hg2 : (W.putObj D0 (.deferred none)).heap[W6.heap.size]? = some (.cells (u8C (scat ms (places l) ds)).toArray 5 (0, 0)) := by
      rw [World.putObj_heap_other (by have := hz7.out; omega), hg, ← Hall.out, ← hL.out, hnl.out]
    replace hg2 := Lib.hid hg2
    gi_wp2
    refine ⟨by simp, .inl ⟨_, _, rfl, run_takeDeferred hK, ?_⟩⟩
    refine ⟨.tuple #[.slice (some ⟨W6.heap.size, 0, none⟩) q q, .int .i64 0], by simp [results, Try.results17, go_sem], W6.heap.size, rfl, hW6s, heap_lt hg2.out, hg2.out, hkk⟩
end Go.Proofs.Ytdkinfglpnajmaa
