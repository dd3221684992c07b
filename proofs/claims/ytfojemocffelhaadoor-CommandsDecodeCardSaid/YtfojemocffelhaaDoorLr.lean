

/- CommandsDecode together. -/
import Derived.Test.YtfojemocffelhaaDoorChecked
import Derived.Deep.RegionHeld3
import Derived.Deep.DrawnRows
import Derived.Deep.DeepCutAuto
import Derived.Deep.LoopGhost
import Derived.Outline
import Derived.Handy
import Derived.Test.YtfojemocffelhaaDoorLk
import Derived.Test.YtfojemocffelhaaDoorLl
import Derived.Test.YtfojemocffelhaaDoorLm
import Derived.Test.YtfojemocffelhaaDoorLn
import Derived.Test.YtfojemocffelhaaDoorLo
import Derived.Test.YtfojemocffelhaaDoorLp
import Derived.Test.YtfojemocffelhaaDoorLq
namespace Go.Proofs.YtfojemocffelhaaDoor
open Go.RowKit

theorem byte_bd (x : UInt8) : 0 ≤ (x.toNat : Int) ∧ (x.toNat : Int) < 256 := by have := x.toNat_lt; omega
theorem two_at {l : List UInt8} {k : Nat} {x y : UInt8} (hx : l[k]? = some x) (hy : l[k + 1]? = some y) : (l.drop k).take 2 = [x, y] := by
  obtain ⟨h1, e1⟩ := List.getElem?_eq_some_iff.1 hx
  obtain ⟨h2, e2⟩ := List.getElem?_eq_some_iff.1 hy
  rw [List.drop_eq_getElem_cons h1, List.drop_eq_getElem_cons h2, e1, e2]
  rfl
theorem four_at {l : List UInt8} {k : Nat} {x y z t : UInt8} (hx : l[k]? = some x) (hy : l[k + 1]? = some y) (hz : l[k + 2]? = some z) (ht : l[k + 3]? = some t) : (l.drop k).take 4 = [x, y, z, t] := by
  obtain ⟨h1, e1⟩ := List.getElem?_eq_some_iff.1 hx
  obtain ⟨h2, e2⟩ := List.getElem?_eq_some_iff.1 hy
  obtain ⟨h3, e3⟩ := List.getElem?_eq_some_iff.1 hz
  obtain ⟨h4, e4⟩ := List.getElem?_eq_some_iff.1 ht
  rw [List.drop_eq_getElem_cons h1, List.drop_eq_getElem_cons h2, List.drop_eq_getElem_cons h3, List.drop_eq_getElem_cons h4, e1, e2, e3, e4]
  rfl
theorem decode_law (A : Option Addr) (n cp : Nat) (bs : List UInt8) (w : World) (hT : Tabs w) (hl : Sl byT w (low w.heap.size) A n bs) (hcp : n ≤ cp) :
    Calls Tryd.prog 6 #[.slice A n cp] w fun e w' => e = .returned (.bool true) ∧ Kept w w' := by
  by_cases h40 : 40 < n
  · exact jd_long A n cp w hT h40
  have hn40 : n ≤ 40 := by omega
  have hdec := decode_any A n cp bs w hT hl hcp
  have hlen := hl.1
  by_cases hn : n = 0
  · subst hn
    have : bs = [] := List.eq_nil_of_length_eq_zero hlen
    subst this
    exact jd_empty A cp w hT hdec
  have hn : 0 < n := by omega
  have hne : bs ≠ [] := fun h => by rw [h] at hlen; simp at hlen; omega
  obtain ⟨b, off, rfl, hB⟩ := Bs.of_sl hl hn
  obtain ⟨x0, hx0⟩ : ∃ x, bs[0]? = some x := ⟨_, List.getElem?_eq_getElem (by omega)⟩
  have z0 := hB.2 0 x0 hx0
  rw [← opD_of hx0, Nat.add_zero] at z0
  rcases op_cases (opD bs) with e | e | e | e | e | e | e | h
  · rw [e] at z0
    by_cases hw : n < 6 ∨ 16 < n
    · have he : errD bs = 5 := by
        unfold errD
        rw [if_neg hne, e, if_neg (by decide), if_pos (by rw [hlen]; exact hw)]
      unfold decV at hdec
      rw [he, if_neg (by decide)] at hdec
      exact jd_width_0 b off n cp w hT hn hn40 (by exact hw) hB.1 z0 hdec
    have hwd : 6 ≤ n := by omega
    have h16 : n ≤ 16 := by omega
    have h1 : widZ (opD bs) ≠ 0 := by rw [e]; decide
    have h2 : widZ (opD bs) ≤ bs.length := by rw [e, hlen]; exact hwd
    have he := err_good hne h1 h2 (by omega)
    have eb : blkD bs = 0 := by unfold blkD; rw [e]; rfl
    have ec : cntD bs = 0 := by unfold cntD; rw [e]; rfl
    have el : lenD bs = 0 := by unfold lenD; rw [e]; rfl
    have hP : properZ 0 0 0 0 = true := by decide
    have h13 : ∀ w, _ := fun w => lawproper_any 0 0 0 0 w (by decide) (by decide) (by decide) (by decide)
    rw [hP] at h13
    have h19 : ∀ w, _ := fun w => lawbytes 0 0 0 0 w (by decide) (by decide) (by decide) (by decide) hP
    have hL : (bytesZ 0 0 0 0).length = 6 := bytesZ_len hP
    unfold decV at hdec
    by_cases hd : bytesZ 0 0 0 0 = bs.take 6
    · cases hz : (bs.drop 6).all (· == 0) with
      | false =>
        have hg : ¬ goodD bs = true := fun h => by
          have := (good_parts.1 h).2.2
          rw [e] at this
          exact absurd (hz.symm.trans this) (by decide)
        rw [he, if_neg hg, if_neg (by decide)] at hdec
        exact jd_0_tail b off n cp bs w hT hlen hwd h16 hcp hB z0  h13 _ hL h19 hd hz hdec
      | true =>
        have hg : goodD bs = true := good_parts.2 ⟨by rw [e, eb, ec, el]; exact hP, by rw [e, eb, ec, el]; exact hd, by rw [e]; exact hz⟩
        rw [he, if_pos hg, if_pos rfl, e, eb, ec, el] at hdec
        exact jd_0_ok b off n cp bs w hT hlen hwd h16 hcp hB z0  h13 _ hL h19 hd hz hdec
    · have hg : ¬ goodD bs = true := fun h => by
        have := (good_parts.1 h).2.1
        rw [e, eb, ec, el] at this
        exact hd this
      rw [he, if_neg hg, if_neg (by decide)] at hdec
      exact jd_0_ne b off n cp bs w hT hlen hwd h16 hcp hB z0  h13 _ hL h19 hd hdec
  · rw [e] at z0
    by_cases hw : n < 6 ∨ 16 < n
    · have he : errD bs = 5 := by
        unfold errD
        rw [if_neg hne, e, if_neg (by decide), if_pos (by rw [hlen]; exact hw)]
      unfold decV at hdec
      rw [he, if_neg (by decide)] at hdec
      exact jd_width_3 b off n cp w hT hn hn40 (by exact hw) hB.1 z0 hdec
    have hwd : 6 ≤ n := by omega
    have h16 : n ≤ 16 := by omega
    have h1 : widZ (opD bs) ≠ 0 := by rw [e]; decide
    have h2 : widZ (opD bs) ≤ bs.length := by rw [e, hlen]; exact hwd
    have he := err_good hne h1 h2 (by omega)
    obtain ⟨x4, hx4⟩ : ∃ x, bs[4]? = some x := ⟨_, List.getElem?_eq_getElem (by omega)⟩
    have z4 := hB.2 4 x4 hx4
    have hx := x4.toNat_lt
    have eb : blkD bs = 0 := by unfold blkD; rw [e]; rfl
    have ec : cntD bs = 0 := by unfold cntD; rw [e]; rfl
    have el : lenD bs = (x4.toNat : Int) := by unfold lenD; rw [e, hx4]; rfl
    have hP : properZ 3 0 0 (x4.toNat : Int) = true := by
      simp [properZ]
      omega
    have h13 : ∀ w, _ := fun w => lawproper_any 3 0 0 (x4.toNat : Int) w (by decide) (by decide) (by decide) (by decide)
    rw [hP] at h13
    have h19 : ∀ w, _ := fun w => lawbytes 3 0 0 (x4.toNat : Int) w (by decide) (by decide) (by decide) (by decide) hP
    have hL : (bytesZ 3 0 0 (x4.toNat : Int)).length = 6 := bytesZ_len hP
    unfold decV at hdec
    by_cases hd : bytesZ 3 0 0 (x4.toNat : Int) = bs.take 6
    · cases hz : (bs.drop 6).all (· == 0) with
      | false =>
        have hg : ¬ goodD bs = true := fun h => by
          have := (good_parts.1 h).2.2
          rw [e] at this
          exact absurd (hz.symm.trans this) (by decide)
        rw [he, if_neg hg, if_neg (by decide)] at hdec
        exact jd_3_tail b off n cp bs w hT hlen hwd h16 hcp hB z0 (x4.toNat : Int) (by omega) (by omega) z4 h13 _ hL h19 hd hz hdec
      | true =>
        have hg : goodD bs = true := good_parts.2 ⟨by rw [e, eb, ec, el]; exact hP, by rw [e, eb, ec, el]; exact hd, by rw [e]; exact hz⟩
        rw [he, if_pos hg, if_pos rfl, e, eb, ec, el] at hdec
        exact jd_3_ok b off n cp bs w hT hlen hwd h16 hcp hB z0 (x4.toNat : Int) (by omega) (by omega) z4 h13 _ hL h19 hd hz hdec
    · have hg : ¬ goodD bs = true := fun h => by
        have := (good_parts.1 h).2.1
        rw [e, eb, ec, el] at this
        exact hd this
      rw [he, if_neg hg, if_neg (by decide)] at hdec
      exact jd_3_ne b off n cp bs w hT hlen hwd h16 hcp hB z0 (x4.toNat : Int) (by omega) (by omega) z4 h13 _ hL h19 hd hdec
  · rw [e] at z0
    by_cases hw : n < 6 ∨ 16 < n
    · have he : errD bs = 5 := by
        unfold errD
        rw [if_neg hne, e, if_neg (by decide), if_pos (by rw [hlen]; exact hw)]
      unfold decV at hdec
      rw [he, if_neg (by decide)] at hdec
      exact jd_width_18 b off n cp w hT hn hn40 (by exact hw) hB.1 z0 hdec
    have hwd : 6 ≤ n := by omega
    have h16 : n ≤ 16 := by omega
    have h1 : widZ (opD bs) ≠ 0 := by rw [e]; decide
    have h2 : widZ (opD bs) ≤ bs.length := by rw [e, hlen]; exact hwd
    have he := err_good hne h1 h2 (by omega)
    obtain ⟨x4, hx4⟩ : ∃ x, bs[4]? = some x := ⟨_, List.getElem?_eq_getElem (by omega)⟩
    have z4 := hB.2 4 x4 hx4
    have hx := x4.toNat_lt
    have eb : blkD bs = 0 := by unfold blkD; rw [e]; rfl
    have ec : cntD bs = 0 := by unfold cntD; rw [e]; rfl
    have el : lenD bs = (x4.toNat : Int) := by unfold lenD; rw [e, hx4]; rfl
    have hP : properZ 18 0 0 (x4.toNat : Int) = true := by
      simp [properZ]
      omega
    have h13 : ∀ w, _ := fun w => lawproper_any 18 0 0 (x4.toNat : Int) w (by decide) (by decide) (by decide) (by decide)
    rw [hP] at h13
    have h19 : ∀ w, _ := fun w => lawbytes 18 0 0 (x4.toNat : Int) w (by decide) (by decide) (by decide) (by decide) hP
    have hL : (bytesZ 18 0 0 (x4.toNat : Int)).length = 6 := bytesZ_len hP
    unfold decV at hdec
    by_cases hd : bytesZ 18 0 0 (x4.toNat : Int) = bs.take 6
    · cases hz : (bs.drop 6).all (· == 0) with
      | false =>
        have hg : ¬ goodD bs = true := fun h => by
          have := (good_parts.1 h).2.2
          rw [e] at this
          exact absurd (hz.symm.trans this) (by decide)
        rw [he, if_neg hg, if_neg (by decide)] at hdec
        exact jd_18_tail b off n cp bs w hT hlen hwd h16 hcp hB z0 (x4.toNat : Int) (by omega) (by omega) z4 h13 _ hL h19 hd hz hdec
      | true =>
        have hg : goodD bs = true := good_parts.2 ⟨by rw [e, eb, ec, el]; exact hP, by rw [e, eb, ec, el]; exact hd, by rw [e]; exact hz⟩
        rw [he, if_pos hg, if_pos rfl, e, eb, ec, el] at hdec
        exact jd_18_ok b off n cp bs w hT hlen hwd h16 hcp hB z0 (x4.toNat : Int) (by omega) (by omega) z4 h13 _ hL h19 hd hz hdec
    · have hg : ¬ goodD bs = true := fun h => by
        have := (good_parts.1 h).2.1
        rw [e, eb, ec, el] at this
        exact hd this
      rw [he, if_neg hg, if_neg (by decide)] at hdec
      exact jd_18_ne b off n cp bs w hT hlen hwd h16 hcp hB z0 (x4.toNat : Int) (by omega) (by omega) z4 h13 _ hL h19 hd hdec
  · rw [e] at z0
    by_cases hw : n < 10 ∨ 16 < n
    · have he : errD bs = 5 := by
        unfold errD
        rw [if_neg hne, e, if_neg (by decide), if_pos (by rw [hlen]; exact hw)]
      unfold decV at hdec
      rw [he, if_neg (by decide)] at hdec
      exact jd_width_37 b off n cp w hT hn hn40 (by exact hw) hB.1 z0 hdec
    have hwd : 10 ≤ n := by omega
    have h16 : n ≤ 16 := by omega
    have h1 : widZ (opD bs) ≠ 0 := by rw [e]; decide
    have h2 : widZ (opD bs) ≤ bs.length := by rw [e, hlen]; exact hwd
    have he := err_good hne h1 h2 (by omega)
    have eb : blkD bs = 0 := by unfold blkD; rw [e]; rfl
    have ec : cntD bs = 0 := by unfold cntD; rw [e]; rfl
    have el : lenD bs = 0 := by unfold lenD; rw [e]; rfl
    have hP : properZ 37 0 0 0 = true := by decide
    have h13 : ∀ w, _ := fun w => lawproper_any 37 0 0 0 w (by decide) (by decide) (by decide) (by decide)
    rw [hP] at h13
    have h19 : ∀ w, _ := fun w => lawbytes 37 0 0 0 w (by decide) (by decide) (by decide) (by decide) hP
    have hL : (bytesZ 37 0 0 0).length = 10 := bytesZ_len hP
    unfold decV at hdec
    by_cases hd : bytesZ 37 0 0 0 = bs.take 10
    · cases hz : (bs.drop 10).all (· == 0) with
      | false =>
        have hg : ¬ goodD bs = true := fun h => by
          have := (good_parts.1 h).2.2
          rw [e] at this
          exact absurd (hz.symm.trans this) (by decide)
        rw [he, if_neg hg, if_neg (by decide)] at hdec
        exact jd_37_tail b off n cp bs w hT hlen hwd h16 hcp hB z0  h13 _ hL h19 hd hz hdec
      | true =>
        have hg : goodD bs = true := good_parts.2 ⟨by rw [e, eb, ec, el]; exact hP, by rw [e, eb, ec, el]; exact hd, by rw [e]; exact hz⟩
        rw [he, if_pos hg, if_pos rfl, e, eb, ec, el] at hdec
        exact jd_37_ok b off n cp bs w hT hlen hwd h16 hcp hB z0  h13 _ hL h19 hd hz hdec
    · have hg : ¬ goodD bs = true := fun h => by
        have := (good_parts.1 h).2.1
        rw [e, eb, ec, el] at this
        exact hd this
      rw [he, if_neg hg, if_neg (by decide)] at hdec
      exact jd_37_ne b off n cp bs w hT hlen hwd h16 hcp hB z0  h13 _ hL h19 hd hdec
  · rw [e] at z0
    by_cases hw : n < 10 ∨ 16 < n
    · have he : errD bs = 5 := by
        unfold errD
        rw [if_neg hne, e, if_neg (by decide), if_pos (by rw [hlen]; exact hw)]
      unfold decV at hdec
      rw [he, if_neg (by decide)] at hdec
      exact jd_width_40 b off n cp w hT hn hn40 (by exact hw) hB.1 z0 hdec
    have hwd : 10 ≤ n := by omega
    have h16 : n ≤ 16 := by omega
    have h1 : widZ (opD bs) ≠ 0 := by rw [e]; decide
    have h2 : widZ (opD bs) ≤ bs.length := by rw [e, hlen]; exact hwd
    have he := err_good hne h1 h2 (by omega)
    obtain ⟨x2, hx2⟩ : ∃ x, bs[2]? = some x := ⟨_, List.getElem?_eq_getElem (by omega)⟩
    obtain ⟨x3, hx3⟩ : ∃ x, bs[3]? = some x := ⟨_, List.getElem?_eq_getElem (by omega)⟩
    obtain ⟨x4, hx4⟩ : ∃ x, bs[4]? = some x := ⟨_, List.getElem?_eq_getElem (by omega)⟩
    obtain ⟨x5, hx5⟩ : ∃ x, bs[5]? = some x := ⟨_, List.getElem?_eq_getElem (by omega)⟩
    obtain ⟨x7, hx7⟩ : ∃ x, bs[7]? = some x := ⟨_, List.getElem?_eq_getElem (by omega)⟩
    obtain ⟨x8, hx8⟩ : ∃ x, bs[8]? = some x := ⟨_, List.getElem?_eq_getElem (by omega)⟩
    have b2 := byte_bd x2
    have b3 := byte_bd x3
    have b4 := byte_bd x4
    have b5 := byte_bd x5
    have b7 := byte_bd x7
    have b8 := byte_bd x8
    have eb : blkD bs = (x2.toNat : Int) * 16777216 + (x3.toNat : Int) * 65536 + (x4.toNat : Int) * 256 + (x5.toNat : Int) := by
      unfold blkD
      rw [e, if_pos (by decide), four_at hx2 hx3 hx4 hx5]
      simp [accN]
      omega
    have ec : cntD bs = (x7.toNat : Int) * 256 + (x8.toNat : Int) := by
      unfold cntD
      rw [e, if_pos (by decide), two_at hx7 hx8]
      simp [accN]
    have el : lenD bs = 0 := by unfold lenD; rw [e]; rfl
    obtain ⟨B4, hB4⟩ : ∃ B4, B4 = (x2.toNat : Int) * 16777216 + (x3.toNat : Int) * 65536 + (x4.toNat : Int) * 256 + (x5.toNat : Int) := ⟨_, rfl⟩
    obtain ⟨B2, hB2⟩ : ∃ B2, B2 = (x7.toNat : Int) * 256 + (x8.toNat : Int) := ⟨_, rfl⟩
    rw [← hB4] at eb
    rw [← hB2] at ec
    cases hP : properZ 40 B4 B2 0 with
    | false =>
      have h13 : ∀ w, _ := fun w => lawproper_any 40 B4 B2 0 w (by omega) (by omega) (by omega) (by omega)
      rw [hP] at h13
      unfold decV at hdec
      have hg : ¬ goodD bs = true := fun h => by
        have := (good_parts.1 h).1
        rw [e, eb, ec, el, hP] at this
        cases this
      rw [he, if_neg hg, if_neg (by decide)] at hdec
      exact jd_40_err b off n cp bs w hT hlen hwd h16 hcp hB z0 _ _ _ _ _ _ B4 B2 b2 b3 b4 b5 b7 b8 (hB.2 2 x2 hx2) (hB.2 3 x3 hx3) (hB.2 4 x4 hx4) (hB.2 5 x5 hx5) (hB.2 7 x7 hx7) (hB.2 8 x8 hx8) hB4 hB2 h13 hdec
    | true =>
    have h13 : ∀ w, _ := fun w => lawproper_any 40 B4 B2 0 w (by omega) (by omega) (by omega) (by omega)
    rw [hP] at h13
    have h19 : ∀ w, _ := fun w => lawbytes 40 B4 B2 0 w (by omega) (by omega) (by omega) (by omega) hP
    have hL : (bytesZ 40 B4 B2 0).length = 10 := bytesZ_len hP
    unfold decV at hdec
    by_cases hd : bytesZ 40 B4 B2 0 = bs.take 10
    · cases hz : (bs.drop 10).all (· == 0) with
      | false =>
        have hg : ¬ goodD bs = true := fun h => by
          have := (good_parts.1 h).2.2
          rw [e] at this
          exact absurd (hz.symm.trans this) (by decide)
        rw [he, if_neg hg, if_neg (by decide)] at hdec
        exact jd_40_tail b off n cp bs w hT hlen hwd h16 hcp hB z0 _ _ _ _ _ _ B4 B2 b2 b3 b4 b5 b7 b8 (hB.2 2 x2 hx2) (hB.2 3 x3 hx3) (hB.2 4 x4 hx4) (hB.2 5 x5 hx5) (hB.2 7 x7 hx7) (hB.2 8 x8 hx8) hB4 hB2 h13 _ hL h19 hd hz hdec
      | true =>
        have hg : goodD bs = true := good_parts.2 ⟨by rw [e, eb, ec, el]; exact hP, by rw [e, eb, ec, el]; exact hd, by rw [e]; exact hz⟩
        rw [he, if_pos hg, if_pos rfl, e, eb, ec, el] at hdec
        exact jd_40_ok b off n cp bs w hT hlen hwd h16 hcp hB z0 _ _ _ _ _ _ B4 B2 b2 b3 b4 b5 b7 b8 (hB.2 2 x2 hx2) (hB.2 3 x3 hx3) (hB.2 4 x4 hx4) (hB.2 5 x5 hx5) (hB.2 7 x7 hx7) (hB.2 8 x8 hx8) hB4 hB2 h13 _ hL h19 hd hz hdec
    · have hg : ¬ goodD bs = true := fun h => by
        have := (good_parts.1 h).2.1
        rw [e, eb, ec, el] at this
        exact hd this
      rw [he, if_neg hg, if_neg (by decide)] at hdec
      exact jd_40_ne b off n cp bs w hT hlen hwd h16 hcp hB z0 _ _ _ _ _ _ B4 B2 b2 b3 b4 b5 b7 b8 (hB.2 2 x2 hx2) (hB.2 3 x3 hx3) (hB.2 4 x4 hx4) (hB.2 5 x5 hx5) (hB.2 7 x7 hx7) (hB.2 8 x8 hx8) hB4 hB2 h13 _ hL h19 hd hdec
  · rw [e] at z0
    by_cases hw : n < 10 ∨ 16 < n
    · have he : errD bs = 5 := by
        unfold errD
        rw [if_neg hne, e, if_neg (by decide), if_pos (by rw [hlen]; exact hw)]
      unfold decV at hdec
      rw [he, if_neg (by decide)] at hdec
      exact jd_width_42 b off n cp w hT hn hn40 (by exact hw) hB.1 z0 hdec
    have hwd : 10 ≤ n := by omega
    have h16 : n ≤ 16 := by omega
    have h1 : widZ (opD bs) ≠ 0 := by rw [e]; decide
    have h2 : widZ (opD bs) ≤ bs.length := by rw [e, hlen]; exact hwd
    have he := err_good hne h1 h2 (by omega)
    obtain ⟨x2, hx2⟩ : ∃ x, bs[2]? = some x := ⟨_, List.getElem?_eq_getElem (by omega)⟩
    obtain ⟨x3, hx3⟩ : ∃ x, bs[3]? = some x := ⟨_, List.getElem?_eq_getElem (by omega)⟩
    obtain ⟨x4, hx4⟩ : ∃ x, bs[4]? = some x := ⟨_, List.getElem?_eq_getElem (by omega)⟩
    obtain ⟨x5, hx5⟩ : ∃ x, bs[5]? = some x := ⟨_, List.getElem?_eq_getElem (by omega)⟩
    obtain ⟨x7, hx7⟩ : ∃ x, bs[7]? = some x := ⟨_, List.getElem?_eq_getElem (by omega)⟩
    obtain ⟨x8, hx8⟩ : ∃ x, bs[8]? = some x := ⟨_, List.getElem?_eq_getElem (by omega)⟩
    have b2 := byte_bd x2
    have b3 := byte_bd x3
    have b4 := byte_bd x4
    have b5 := byte_bd x5
    have b7 := byte_bd x7
    have b8 := byte_bd x8
    have eb : blkD bs = (x2.toNat : Int) * 16777216 + (x3.toNat : Int) * 65536 + (x4.toNat : Int) * 256 + (x5.toNat : Int) := by
      unfold blkD
      rw [e, if_pos (by decide), four_at hx2 hx3 hx4 hx5]
      simp [accN]
      omega
    have ec : cntD bs = (x7.toNat : Int) * 256 + (x8.toNat : Int) := by
      unfold cntD
      rw [e, if_pos (by decide), two_at hx7 hx8]
      simp [accN]
    have el : lenD bs = 0 := by unfold lenD; rw [e]; rfl
    obtain ⟨B4, hB4⟩ : ∃ B4, B4 = (x2.toNat : Int) * 16777216 + (x3.toNat : Int) * 65536 + (x4.toNat : Int) * 256 + (x5.toNat : Int) := ⟨_, rfl⟩
    obtain ⟨B2, hB2⟩ : ∃ B2, B2 = (x7.toNat : Int) * 256 + (x8.toNat : Int) := ⟨_, rfl⟩
    rw [← hB4] at eb
    rw [← hB2] at ec
    cases hP : properZ 42 B4 B2 0 with
    | false =>
      have h13 : ∀ w, _ := fun w => lawproper_any 42 B4 B2 0 w (by omega) (by omega) (by omega) (by omega)
      rw [hP] at h13
      unfold decV at hdec
      have hg : ¬ goodD bs = true := fun h => by
        have := (good_parts.1 h).1
        rw [e, eb, ec, el, hP] at this
        cases this
      rw [he, if_neg hg, if_neg (by decide)] at hdec
      exact jd_42_err b off n cp bs w hT hlen hwd h16 hcp hB z0 _ _ _ _ _ _ B4 B2 b2 b3 b4 b5 b7 b8 (hB.2 2 x2 hx2) (hB.2 3 x3 hx3) (hB.2 4 x4 hx4) (hB.2 5 x5 hx5) (hB.2 7 x7 hx7) (hB.2 8 x8 hx8) hB4 hB2 h13 hdec
    | true =>
    have h13 : ∀ w, _ := fun w => lawproper_any 42 B4 B2 0 w (by omega) (by omega) (by omega) (by omega)
    rw [hP] at h13
    have h19 : ∀ w, _ := fun w => lawbytes 42 B4 B2 0 w (by omega) (by omega) (by omega) (by omega) hP
    have hL : (bytesZ 42 B4 B2 0).length = 10 := bytesZ_len hP
    unfold decV at hdec
    by_cases hd : bytesZ 42 B4 B2 0 = bs.take 10
    · cases hz : (bs.drop 10).all (· == 0) with
      | false =>
        have hg : ¬ goodD bs = true := fun h => by
          have := (good_parts.1 h).2.2
          rw [e] at this
          exact absurd (hz.symm.trans this) (by decide)
        rw [he, if_neg hg, if_neg (by decide)] at hdec
        exact jd_42_tail b off n cp bs w hT hlen hwd h16 hcp hB z0 _ _ _ _ _ _ B4 B2 b2 b3 b4 b5 b7 b8 (hB.2 2 x2 hx2) (hB.2 3 x3 hx3) (hB.2 4 x4 hx4) (hB.2 5 x5 hx5) (hB.2 7 x7 hx7) (hB.2 8 x8 hx8) hB4 hB2 h13 _ hL h19 hd hz hdec
      | true =>
        have hg : goodD bs = true := good_parts.2 ⟨by rw [e, eb, ec, el]; exact hP, by rw [e, eb, ec, el]; exact hd, by rw [e]; exact hz⟩
        rw [he, if_pos hg, if_pos rfl, e, eb, ec, el] at hdec
        exact jd_42_ok b off n cp bs w hT hlen hwd h16 hcp hB z0 _ _ _ _ _ _ B4 B2 b2 b3 b4 b5 b7 b8 (hB.2 2 x2 hx2) (hB.2 3 x3 hx3) (hB.2 4 x4 hx4) (hB.2 5 x5 hx5) (hB.2 7 x7 hx7) (hB.2 8 x8 hx8) hB4 hB2 h13 _ hL h19 hd hz hdec
    · have hg : ¬ goodD bs = true := fun h => by
        have := (good_parts.1 h).2.1
        rw [e, eb, ec, el] at this
        exact hd this
      rw [he, if_neg hg, if_neg (by decide)] at hdec
      exact jd_42_ne b off n cp bs w hT hlen hwd h16 hcp hB z0 _ _ _ _ _ _ B4 B2 b2 b3 b4 b5 b7 b8 (hB.2 2 x2 hx2) (hB.2 3 x3 hx3) (hB.2 4 x4 hx4) (hB.2 5 x5 hx5) (hB.2 7 x7 hx7) (hB.2 8 x8 hx8) hB4 hB2 h13 _ hL h19 hd hdec
  · rw [e] at z0
    by_cases hw : n < 10 ∨ 16 < n
    · have he : errD bs = 5 := by
        unfold errD
        rw [if_neg hne, e, if_neg (by decide), if_pos (by rw [hlen]; exact hw)]
      unfold decV at hdec
      rw [he, if_neg (by decide)] at hdec
      exact jd_width_53 b off n cp w hT hn hn40 (by exact hw) hB.1 z0 hdec
    have hwd : 10 ≤ n := by omega
    have h16 : n ≤ 16 := by omega
    have h1 : widZ (opD bs) ≠ 0 := by rw [e]; decide
    have h2 : widZ (opD bs) ≤ bs.length := by rw [e, hlen]; exact hwd
    have he := err_good hne h1 h2 (by omega)
    obtain ⟨x2, hx2⟩ : ∃ x, bs[2]? = some x := ⟨_, List.getElem?_eq_getElem (by omega)⟩
    obtain ⟨x3, hx3⟩ : ∃ x, bs[3]? = some x := ⟨_, List.getElem?_eq_getElem (by omega)⟩
    obtain ⟨x4, hx4⟩ : ∃ x, bs[4]? = some x := ⟨_, List.getElem?_eq_getElem (by omega)⟩
    obtain ⟨x5, hx5⟩ : ∃ x, bs[5]? = some x := ⟨_, List.getElem?_eq_getElem (by omega)⟩
    obtain ⟨x7, hx7⟩ : ∃ x, bs[7]? = some x := ⟨_, List.getElem?_eq_getElem (by omega)⟩
    obtain ⟨x8, hx8⟩ : ∃ x, bs[8]? = some x := ⟨_, List.getElem?_eq_getElem (by omega)⟩
    have b2 := byte_bd x2
    have b3 := byte_bd x3
    have b4 := byte_bd x4
    have b5 := byte_bd x5
    have b7 := byte_bd x7
    have b8 := byte_bd x8
    have eb : blkD bs = (x2.toNat : Int) * 16777216 + (x3.toNat : Int) * 65536 + (x4.toNat : Int) * 256 + (x5.toNat : Int) := by
      unfold blkD
      rw [e, if_pos (by decide), four_at hx2 hx3 hx4 hx5]
      simp [accN]
      omega
    have ec : cntD bs = (x7.toNat : Int) * 256 + (x8.toNat : Int) := by
      unfold cntD
      rw [e, if_pos (by decide), two_at hx7 hx8]
      simp [accN]
    have el : lenD bs = 0 := by unfold lenD; rw [e]; rfl
    obtain ⟨B4, hB4⟩ : ∃ B4, B4 = (x2.toNat : Int) * 16777216 + (x3.toNat : Int) * 65536 + (x4.toNat : Int) * 256 + (x5.toNat : Int) := ⟨_, rfl⟩
    obtain ⟨B2, hB2⟩ : ∃ B2, B2 = (x7.toNat : Int) * 256 + (x8.toNat : Int) := ⟨_, rfl⟩
    rw [← hB4] at eb
    rw [← hB2] at ec
    cases hP : properZ 53 B4 B2 0 with
    | false =>
      have h13 : ∀ w, _ := fun w => lawproper_any 53 B4 B2 0 w (by omega) (by omega) (by omega) (by omega)
      rw [hP] at h13
      unfold decV at hdec
      have hg : ¬ goodD bs = true := fun h => by
        have := (good_parts.1 h).1
        rw [e, eb, ec, el, hP] at this
        cases this
      rw [he, if_neg hg, if_neg (by decide)] at hdec
      exact jd_53_err b off n cp bs w hT hlen hwd h16 hcp hB z0 _ _ _ _ _ _ B4 B2 b2 b3 b4 b5 b7 b8 (hB.2 2 x2 hx2) (hB.2 3 x3 hx3) (hB.2 4 x4 hx4) (hB.2 5 x5 hx5) (hB.2 7 x7 hx7) (hB.2 8 x8 hx8) hB4 hB2 h13 hdec
    | true =>
    have h13 : ∀ w, _ := fun w => lawproper_any 53 B4 B2 0 w (by omega) (by omega) (by omega) (by omega)
    rw [hP] at h13
    have h19 : ∀ w, _ := fun w => lawbytes 53 B4 B2 0 w (by omega) (by omega) (by omega) (by omega) hP
    have hL : (bytesZ 53 B4 B2 0).length = 10 := bytesZ_len hP
    unfold decV at hdec
    by_cases hd : bytesZ 53 B4 B2 0 = bs.take 10
    · cases hz : (bs.drop 10).all (· == 0) with
      | false =>
        have hg : ¬ goodD bs = true := fun h => by
          have := (good_parts.1 h).2.2
          rw [e] at this
          exact absurd (hz.symm.trans this) (by decide)
        rw [he, if_neg hg, if_neg (by decide)] at hdec
        exact jd_53_tail b off n cp bs w hT hlen hwd h16 hcp hB z0 _ _ _ _ _ _ B4 B2 b2 b3 b4 b5 b7 b8 (hB.2 2 x2 hx2) (hB.2 3 x3 hx3) (hB.2 4 x4 hx4) (hB.2 5 x5 hx5) (hB.2 7 x7 hx7) (hB.2 8 x8 hx8) hB4 hB2 h13 _ hL h19 hd hz hdec
      | true =>
        have hg : goodD bs = true := good_parts.2 ⟨by rw [e, eb, ec, el]; exact hP, by rw [e, eb, ec, el]; exact hd, by rw [e]; exact hz⟩
        rw [he, if_pos hg, if_pos rfl, e, eb, ec, el] at hdec
        exact jd_53_ok b off n cp bs w hT hlen hwd h16 hcp hB z0 _ _ _ _ _ _ B4 B2 b2 b3 b4 b5 b7 b8 (hB.2 2 x2 hx2) (hB.2 3 x3 hx3) (hB.2 4 x4 hx4) (hB.2 5 x5 hx5) (hB.2 7 x7 hx7) (hB.2 8 x8 hx8) hB4 hB2 h13 _ hL h19 hd hz hdec
    · have hg : ¬ goodD bs = true := fun h => by
        have := (good_parts.1 h).2.1
        rw [e, eb, ec, el] at this
        exact hd this
      rw [he, if_neg hg, if_neg (by decide)] at hdec
      exact jd_53_ne b off n cp bs w hT hlen hwd h16 hcp hB z0 _ _ _ _ _ _ B4 B2 b2 b3 b4 b5 b7 b8 (hB.2 2 x2 hx2) (hB.2 3 x3 hx3) (hB.2 4 x4 hx4) (hB.2 5 x5 hx5) (hB.2 7 x7 hx7) (hB.2 8 x8 hx8) hB4 hB2 h13 _ hL h19 hd hdec
  · have h' := properZ_none _ h
    have he : errD bs = 4 := by
      unfold errD
      rw [if_neg hne, if_pos (by simp [widZ, h'])]
    unfold decV at hdec
    rw [he, if_neg (by decide)] at hdec
    exact jd_no (opD bs) b off n cp w hT hn hn40 hB.1 z0 h hdec
end Go.Proofs.YtfojemocffelhaaDoor
