

/- Decode, whatever the bytes are. -/
import Derived.Test.YtfojemocffelhaaDoorChecked
import Derived.Deep.RegionHeld3
import Derived.Deep.DrawnRows
import Derived.Deep.DeepCutAuto
import Derived.Deep.LoopGhost
import Derived.Outline
import Derived.Handy
import Derived.Test.YtfojemocffelhaaDoorSt
set_option linter.unusedVariables false
set_option linter.unusedSimpArgs false
set_option linter.unusedSectionVars false
namespace Go.Proofs.YtfojemocffelhaaDoor
open Go.RowKit Go.Shelf

theorem decode_any (A : Option Addr) (n cp : Nat) (bs : List UInt8) (w : World) (hT : Tabs w) (hl : Sl byT w (low w.heap.size) A n bs) (hcp : n ≤ cp) :
    Calls Tryd.prog 20 #[.slice A n cp] w fun e w' => e = .returned (.tuple #[decV bs, .int .i64 (errD bs)]) ∧ Kept w w' := by
  have hlen := hl.1
  by_cases hn : n = 0
  · subst hn
    have : bs = [] := List.eq_nil_of_length_eq_zero hlen
    subst this
    exact dec_empty A cp w
  have hn : 0 < n := by omega
  have hne : bs ≠ [] := fun h => by rw [h] at hlen; simp at hlen; omega
  obtain ⟨b, off, rfl, hB⟩ := Bs.of_sl hl hn
  obtain ⟨x0, hx0⟩ : ∃ x, bs[0]? = some x := ⟨_, List.getElem?_eq_getElem (by omega)⟩
  have z0 := hB.2 0 x0 hx0
  rw [← opD_of hx0, Nat.add_zero] at z0
  rcases op_cases (opD bs) with e | e | e | e | e | e | e | h
  · rw [e] at z0
    by_cases hw : n < 6 ∨ 16 < n
    · have he : errD bs = 5 := by
        unfold errD
        rw [if_neg hne, e, if_neg (by decide), if_pos (by rw [hlen]; exact hw)]
      unfold decV
      rw [he, if_neg (by decide)]
      exact dec_width 0 0 _ 6 _ _ _ b off n cp w hT hn (by exact hw) hB.1 z0 find_0
    have hwd : 6 ≤ n := by omega
    have h16 : n ≤ 16 := by omega
    have h1 : widZ (opD bs) ≠ 0 := by rw [e]; decide
    have h2 : widZ (opD bs) ≤ bs.length := by rw [e, hlen]; exact hwd
    have eb : blkD bs = 0 := by unfold blkD; rw [e]; rfl
    have ec : cntD bs = 0 := by unfold cntD; rw [e]; rfl
    have el : lenD bs = 0 := by unfold lenD; rw [e]; rfl
    refine dec_three hne h1 h2 (by omega) (by rw [e, eb, ec, el]; decide) ?_ ?_ ?_
    · intro h
      rw [e, eb, ec, el] at h
      exact dec_plain6_ne 0 _ _ b off n cp bs _ w hT hlen hwd h16 hcp hB z0 trivial (enc_of (by decide) (by decide) (by decide) (by decide) (by decide) (by decide)) (by decide) h find_0
    · intro h h'
      rw [e, eb, ec, el] at h
      rw [e] at h'
      exact dec_plain6_tail 0 _ _ b off n cp bs _ w hT hlen hwd h16 hcp hB z0 trivial (enc_of (by decide) (by decide) (by decide) (by decide) (by decide) (by decide)) (by decide) h h' find_0
    · intro h h'
      rw [e, eb, ec, el] at h
      rw [e] at h'
      rw [e, eb, ec, el]
      exact dec_plain6_ok 0 _ _ b off n cp bs _ w hT hlen hwd h16 hcp hB z0 trivial (enc_of (by decide) (by decide) (by decide) (by decide) (by decide) (by decide)) (by decide) h h' find_0
  · rw [e] at z0
    by_cases hw : n < 6 ∨ 16 < n
    · have he : errD bs = 5 := by
        unfold errD
        rw [if_neg hne, e, if_neg (by decide), if_pos (by rw [hlen]; exact hw)]
      unfold decV
      rw [he, if_neg (by decide)]
      exact dec_width 3 3 _ 6 _ _ _ b off n cp w hT hn (by exact hw) hB.1 z0 find_3
    have hwd : 6 ≤ n := by omega
    have h16 : n ≤ 16 := by omega
    have h1 : widZ (opD bs) ≠ 0 := by rw [e]; decide
    have h2 : widZ (opD bs) ≤ bs.length := by rw [e, hlen]; exact hwd
    obtain ⟨x4, hx4⟩ : ∃ x, bs[4]? = some x := ⟨_, List.getElem?_eq_getElem (by omega)⟩
    have z4 := hB.2 4 x4 hx4
    have hx := x4.toNat_lt
    have eb : blkD bs = 0 := by unfold blkD; rw [e]; rfl
    have ec : cntD bs = 0 := by unfold cntD; rw [e]; rfl
    have el : lenD bs = (x4.toNat : Int) := by unfold lenD; rw [e, hx4]; rfl
    have hP : properZ 3 0 0 (x4.toNat : Int) = true := by
      simp [properZ]
      omega
    have hL : (bytesZ 3 0 0 (x4.toNat : Int)).length = 6 := bytesZ_len hP
    refine dec_three hne h1 h2 (by omega) (by rw [e, eb, ec, el]; exact hP) ?_ ?_ ?_
    · intro h
      rw [e, eb, ec, el] at h
      exact dec_len_ne 3 _ _ b off n cp bs _ w hT hlen hwd h16 hcp hB z0 _ (by omega) (by omega) z4 (enc_of (by decide) (by decide) (by decide) (by decide) hP (by decide)) hL h find_3
    · intro h h'
      rw [e, eb, ec, el] at h
      rw [e] at h'
      exact dec_len_tail 3 _ _ b off n cp bs _ w hT hlen hwd h16 hcp hB z0 _ (by omega) (by omega) z4 (enc_of (by decide) (by decide) (by decide) (by decide) hP (by decide)) hL h h' find_3
    · intro h h'
      rw [e, eb, ec, el] at h
      rw [e] at h'
      rw [e, eb, ec, el]
      exact dec_len_ok 3 _ _ b off n cp bs _ w hT hlen hwd h16 hcp hB z0 _ (by omega) (by omega) z4 (enc_of (by decide) (by decide) (by decide) (by decide) hP (by decide)) hL h h' find_3
  · rw [e] at z0
    by_cases hw : n < 6 ∨ 16 < n
    · have he : errD bs = 5 := by
        unfold errD
        rw [if_neg hne, e, if_neg (by decide), if_pos (by rw [hlen]; exact hw)]
      unfold decV
      rw [he, if_neg (by decide)]
      exact dec_width 18 18 _ 6 _ _ _ b off n cp w hT hn (by exact hw) hB.1 z0 find_18
    have hwd : 6 ≤ n := by omega
    have h16 : n ≤ 16 := by omega
    have h1 : widZ (opD bs) ≠ 0 := by rw [e]; decide
    have h2 : widZ (opD bs) ≤ bs.length := by rw [e, hlen]; exact hwd
    obtain ⟨x4, hx4⟩ : ∃ x, bs[4]? = some x := ⟨_, List.getElem?_eq_getElem (by omega)⟩
    have z4 := hB.2 4 x4 hx4
    have hx := x4.toNat_lt
    have eb : blkD bs = 0 := by unfold blkD; rw [e]; rfl
    have ec : cntD bs = 0 := by unfold cntD; rw [e]; rfl
    have el : lenD bs = (x4.toNat : Int) := by unfold lenD; rw [e, hx4]; rfl
    have hP : properZ 18 0 0 (x4.toNat : Int) = true := by
      simp [properZ]
      omega
    have hL : (bytesZ 18 0 0 (x4.toNat : Int)).length = 6 := bytesZ_len hP
    refine dec_three hne h1 h2 (by omega) (by rw [e, eb, ec, el]; exact hP) ?_ ?_ ?_
    · intro h
      rw [e, eb, ec, el] at h
      exact dec_len_ne 18 _ _ b off n cp bs _ w hT hlen hwd h16 hcp hB z0 _ (by omega) (by omega) z4 (enc_of (by decide) (by decide) (by decide) (by decide) hP (by decide)) hL h find_18
    · intro h h'
      rw [e, eb, ec, el] at h
      rw [e] at h'
      exact dec_len_tail 18 _ _ b off n cp bs _ w hT hlen hwd h16 hcp hB z0 _ (by omega) (by omega) z4 (enc_of (by decide) (by decide) (by decide) (by decide) hP (by decide)) hL h h' find_18
    · intro h h'
      rw [e, eb, ec, el] at h
      rw [e] at h'
      rw [e, eb, ec, el]
      exact dec_len_ok 18 _ _ b off n cp bs _ w hT hlen hwd h16 hcp hB z0 _ (by omega) (by omega) z4 (enc_of (by decide) (by decide) (by decide) (by decide) hP (by decide)) hL h h' find_18
  · rw [e] at z0
    by_cases hw : n < 10 ∨ 16 < n
    · have he : errD bs = 5 := by
        unfold errD
        rw [if_neg hne, e, if_neg (by decide), if_pos (by rw [hlen]; exact hw)]
      unfold decV
      rw [he, if_neg (by decide)]
      exact dec_width 37 37 _ 10 _ _ _ b off n cp w hT hn (by exact hw) hB.1 z0 find_37
    have hwd : 10 ≤ n := by omega
    have h16 : n ≤ 16 := by omega
    have h1 : widZ (opD bs) ≠ 0 := by rw [e]; decide
    have h2 : widZ (opD bs) ≤ bs.length := by rw [e, hlen]; exact hwd
    have eb : blkD bs = 0 := by unfold blkD; rw [e]; rfl
    have ec : cntD bs = 0 := by unfold cntD; rw [e]; rfl
    have el : lenD bs = 0 := by unfold lenD; rw [e]; rfl
    refine dec_three hne h1 h2 (by omega) (by rw [e, eb, ec, el]; decide) ?_ ?_ ?_
    · intro h
      rw [e, eb, ec, el] at h
      exact dec_plain10_ne 37 _ _ b off n cp bs _ w hT hlen hwd h16 hcp hB z0 trivial (enc_of (by decide) (by decide) (by decide) (by decide) (by decide) (by decide)) (by decide) h find_37
    · intro h h'
      rw [e, eb, ec, el] at h
      rw [e] at h'
      exact dec_plain10_tail 37 _ _ b off n cp bs _ w hT hlen hwd h16 hcp hB z0 trivial (enc_of (by decide) (by decide) (by decide) (by decide) (by decide) (by decide)) (by decide) h h' find_37
    · intro h h'
      rw [e, eb, ec, el] at h
      rw [e] at h'
      rw [e, eb, ec, el]
      exact dec_plain10_ok 37 _ _ b off n cp bs _ w hT hlen hwd h16 hcp hB z0 trivial (enc_of (by decide) (by decide) (by decide) (by decide) (by decide) (by decide)) (by decide) h h' find_37
  · rw [e] at z0
    by_cases hw : n < 10 ∨ 16 < n
    · have he : errD bs = 5 := by
        unfold errD
        rw [if_neg hne, e, if_neg (by decide), if_pos (by rw [hlen]; exact hw)]
      unfold decV
      rw [he, if_neg (by decide)]
      exact dec_width 40 40 _ 10 _ _ _ b off n cp w hT hn (by exact hw) hB.1 z0 find_40
    have hwd : 10 ≤ n := by omega
    have h16 : n ≤ 16 := by omega
    have h1 : widZ (opD bs) ≠ 0 := by rw [e]; decide
    have h2 : widZ (opD bs) ≤ bs.length := by rw [e, hlen]; exact hwd
    have eb : blkD bs = (accN ((bs.drop 2).take 4) : Int) := by unfold blkD; rw [e]; rfl
    have ec : cntD bs = (accN ((bs.drop 7).take 2) : Int) := by unfold cntD; rw [e]; rfl
    have el : lenD bs = 0 := by unfold lenD; rw [e]; rfl
    have l4 : ((bs.drop 2).take 4).length = 4 := by simp; omega
    have l2 : ((bs.drop 7).take 2).length = 2 := by simp; omega
    have hB4 := accN_lt ((bs.drop 2).take 4)
    have hB2 := accN_lt ((bs.drop 7).take 2)
    rw [l4] at hB4
    rw [l2] at hB2
    have h32 : ∀ w', Kept w w' → ∀ c, Calls Tryd.prog 32 #[.slice (some ⟨b, off + 2, none⟩) 4 c] w' fun e w'' => e = .returned (.int .u32 (accN ((bs.drop 2).take 4) : Int)) ∧ w'' = w' := fun w' hk c => number4 b (off + 2) c _ w' l4 (((hB.kept hk).drop 2).take 4).2
    have h33 : ∀ w', Kept w w' → ∀ c, Calls Tryd.prog 33 #[.slice (some ⟨b, off + 7, none⟩) 2 c] w' fun e w'' => e = .returned (.int .u16 (accN ((bs.drop 7).take 2) : Int)) ∧ w'' = w' := fun w' hk c => number2 b (off + 7) c _ w' l2 (((hB.kept hk).drop 7).take 2).2
    generalize accN ((bs.drop 2).take 4) = N4 at *
    generalize accN ((bs.drop 7).take 2) = N2 at *
    have q4 : (N4 : Int) < 4294967296 := by omega
    have q2 : (N2 : Int) < 65536 := by omega
    cases hP : properZ 40 N4 N2 0 with
    | false =>
      have he := err_good hne h1 h2 (by omega)
      have hg : ¬ goodD bs = true := fun h => by
        have := (good_parts.1 h).1
        rw [e, eb, ec, el, hP] at this
        cases this
      unfold decV
      rw [he, if_neg hg, if_neg (by decide)]
      exact dec_blk_err 40 _ _ b off n cp bs [] w hT hlen hwd h16 hcp hB z0 N4 N2 (by omega) q4 (by omega) q2 h32 h33 (fun w hT => encode_no 40 N4 N2 0 w hT (by omega) q4 (by omega) q2 hP) find_40
    | true =>
    have hL : (bytesZ 40 N4 N2 0).length = 10 := bytesZ_len hP
    refine dec_three hne h1 h2 (by omega) (by rw [e, eb, ec, el]; exact hP) ?_ ?_ ?_
    · intro h
      rw [e, eb, ec, el] at h
      exact dec_blk_ne 40 _ _ b off n cp bs _ w hT hlen hwd h16 hcp hB z0 N4 N2 (by omega) q4 (by omega) q2 h32 h33 (enc_of (by omega) q4 (by omega) q2 hP (by decide)) hL h find_40
    · intro h h'
      rw [e, eb, ec, el] at h
      rw [e] at h'
      exact dec_blk_tail 40 _ _ b off n cp bs _ w hT hlen hwd h16 hcp hB z0 N4 N2 (by omega) q4 (by omega) q2 h32 h33 (enc_of (by omega) q4 (by omega) q2 hP (by decide)) hL h h' find_40
    · intro h h'
      rw [e, eb, ec, el] at h
      rw [e] at h'
      rw [e, eb, ec, el]
      exact dec_blk_ok 40 _ _ b off n cp bs _ w hT hlen hwd h16 hcp hB z0 N4 N2 (by omega) q4 (by omega) q2 h32 h33 (enc_of (by omega) q4 (by omega) q2 hP (by decide)) hL h h' find_40
  · rw [e] at z0
    by_cases hw : n < 10 ∨ 16 < n
    · have he : errD bs = 5 := by
        unfold errD
        rw [if_neg hne, e, if_neg (by decide), if_pos (by rw [hlen]; exact hw)]
      unfold decV
      rw [he, if_neg (by decide)]
      exact dec_width 42 42 _ 10 _ _ _ b off n cp w hT hn (by exact hw) hB.1 z0 find_42
    have hwd : 10 ≤ n := by omega
    have h16 : n ≤ 16 := by omega
    have h1 : widZ (opD bs) ≠ 0 := by rw [e]; decide
    have h2 : widZ (opD bs) ≤ bs.length := by rw [e, hlen]; exact hwd
    have eb : blkD bs = (accN ((bs.drop 2).take 4) : Int) := by unfold blkD; rw [e]; rfl
    have ec : cntD bs = (accN ((bs.drop 7).take 2) : Int) := by unfold cntD; rw [e]; rfl
    have el : lenD bs = 0 := by unfold lenD; rw [e]; rfl
    have l4 : ((bs.drop 2).take 4).length = 4 := by simp; omega
    have l2 : ((bs.drop 7).take 2).length = 2 := by simp; omega
    have hB4 := accN_lt ((bs.drop 2).take 4)
    have hB2 := accN_lt ((bs.drop 7).take 2)
    rw [l4] at hB4
    rw [l2] at hB2
    have h32 : ∀ w', Kept w w' → ∀ c, Calls Tryd.prog 32 #[.slice (some ⟨b, off + 2, none⟩) 4 c] w' fun e w'' => e = .returned (.int .u32 (accN ((bs.drop 2).take 4) : Int)) ∧ w'' = w' := fun w' hk c => number4 b (off + 2) c _ w' l4 (((hB.kept hk).drop 2).take 4).2
    have h33 : ∀ w', Kept w w' → ∀ c, Calls Tryd.prog 33 #[.slice (some ⟨b, off + 7, none⟩) 2 c] w' fun e w'' => e = .returned (.int .u16 (accN ((bs.drop 7).take 2) : Int)) ∧ w'' = w' := fun w' hk c => number2 b (off + 7) c _ w' l2 (((hB.kept hk).drop 7).take 2).2
    generalize accN ((bs.drop 2).take 4) = N4 at *
    generalize accN ((bs.drop 7).take 2) = N2 at *
    have q4 : (N4 : Int) < 4294967296 := by omega
    have q2 : (N2 : Int) < 65536 := by omega
    cases hP : properZ 42 N4 N2 0 with
    | false =>
      have he := err_good hne h1 h2 (by omega)
      have hg : ¬ goodD bs = true := fun h => by
        have := (good_parts.1 h).1
        rw [e, eb, ec, el, hP] at this
        cases this
      unfold decV
      rw [he, if_neg hg, if_neg (by decide)]
      exact dec_blk_err 42 _ _ b off n cp bs [] w hT hlen hwd h16 hcp hB z0 N4 N2 (by omega) q4 (by omega) q2 h32 h33 (fun w hT => encode_no 42 N4 N2 0 w hT (by omega) q4 (by omega) q2 hP) find_42
    | true =>
    have hL : (bytesZ 42 N4 N2 0).length = 10 := bytesZ_len hP
    refine dec_three hne h1 h2 (by omega) (by rw [e, eb, ec, el]; exact hP) ?_ ?_ ?_
    · intro h
      rw [e, eb, ec, el] at h
      exact dec_blk_ne 42 _ _ b off n cp bs _ w hT hlen hwd h16 hcp hB z0 N4 N2 (by omega) q4 (by omega) q2 h32 h33 (enc_of (by omega) q4 (by omega) q2 hP (by decide)) hL h find_42
    · intro h h'
      rw [e, eb, ec, el] at h
      rw [e] at h'
      exact dec_blk_tail 42 _ _ b off n cp bs _ w hT hlen hwd h16 hcp hB z0 N4 N2 (by omega) q4 (by omega) q2 h32 h33 (enc_of (by omega) q4 (by omega) q2 hP (by decide)) hL h h' find_42
    · intro h h'
      rw [e, eb, ec, el] at h
      rw [e] at h'
      rw [e, eb, ec, el]
      exact dec_blk_ok 42 _ _ b off n cp bs _ w hT hlen hwd h16 hcp hB z0 N4 N2 (by omega) q4 (by omega) q2 h32 h33 (enc_of (by omega) q4 (by omega) q2 hP (by decide)) hL h h' find_42
  · rw [e] at z0
    by_cases hw : n < 10 ∨ 16 < n
    · have he : errD bs = 5 := by
        unfold errD
        rw [if_neg hne, e, if_neg (by decide), if_pos (by rw [hlen]; exact hw)]
      unfold decV
      rw [he, if_neg (by decide)]
      exact dec_width 53 53 _ 10 _ _ _ b off n cp w hT hn (by exact hw) hB.1 z0 find_53
    have hwd : 10 ≤ n := by omega
    have h16 : n ≤ 16 := by omega
    have h1 : widZ (opD bs) ≠ 0 := by rw [e]; decide
    have h2 : widZ (opD bs) ≤ bs.length := by rw [e, hlen]; exact hwd
    have eb : blkD bs = (accN ((bs.drop 2).take 4) : Int) := by unfold blkD; rw [e]; rfl
    have ec : cntD bs = (accN ((bs.drop 7).take 2) : Int) := by unfold cntD; rw [e]; rfl
    have el : lenD bs = 0 := by unfold lenD; rw [e]; rfl
    have l4 : ((bs.drop 2).take 4).length = 4 := by simp; omega
    have l2 : ((bs.drop 7).take 2).length = 2 := by simp; omega
    have hB4 := accN_lt ((bs.drop 2).take 4)
    have hB2 := accN_lt ((bs.drop 7).take 2)
    rw [l4] at hB4
    rw [l2] at hB2
    have h32 : ∀ w', Kept w w' → ∀ c, Calls Tryd.prog 32 #[.slice (some ⟨b, off + 2, none⟩) 4 c] w' fun e w'' => e = .returned (.int .u32 (accN ((bs.drop 2).take 4) : Int)) ∧ w'' = w' := fun w' hk c => number4 b (off + 2) c _ w' l4 (((hB.kept hk).drop 2).take 4).2
    have h33 : ∀ w', Kept w w' → ∀ c, Calls Tryd.prog 33 #[.slice (some ⟨b, off + 7, none⟩) 2 c] w' fun e w'' => e = .returned (.int .u16 (accN ((bs.drop 7).take 2) : Int)) ∧ w'' = w' := fun w' hk c => number2 b (off + 7) c _ w' l2 (((hB.kept hk).drop 7).take 2).2
    generalize accN ((bs.drop 2).take 4) = N4 at *
    generalize accN ((bs.drop 7).take 2) = N2 at *
    have q4 : (N4 : Int) < 4294967296 := by omega
    have q2 : (N2 : Int) < 65536 := by omega
    cases hP : properZ 53 N4 N2 0 with
    | false =>
      have he := err_good hne h1 h2 (by omega)
      have hg : ¬ goodD bs = true := fun h => by
        have := (good_parts.1 h).1
        rw [e, eb, ec, el, hP] at this
        cases this
      unfold decV
      rw [he, if_neg hg, if_neg (by decide)]
      exact dec_blk_err 53 _ _ b off n cp bs [] w hT hlen hwd h16 hcp hB z0 N4 N2 (by omega) q4 (by omega) q2 h32 h33 (fun w hT => encode_no 53 N4 N2 0 w hT (by omega) q4 (by omega) q2 hP) find_53
    | true =>
    have hL : (bytesZ 53 N4 N2 0).length = 10 := bytesZ_len hP
    refine dec_three hne h1 h2 (by omega) (by rw [e, eb, ec, el]; exact hP) ?_ ?_ ?_
    · intro h
      rw [e, eb, ec, el] at h
      exact dec_blk_ne 53 _ _ b off n cp bs _ w hT hlen hwd h16 hcp hB z0 N4 N2 (by omega) q4 (by omega) q2 h32 h33 (enc_of (by omega) q4 (by omega) q2 hP (by decide)) hL h find_53
    · intro h h'
      rw [e, eb, ec, el] at h
      rw [e] at h'
      exact dec_blk_tail 53 _ _ b off n cp bs _ w hT hlen hwd h16 hcp hB z0 N4 N2 (by omega) q4 (by omega) q2 h32 h33 (enc_of (by omega) q4 (by omega) q2 hP (by decide)) hL h h' find_53
    · intro h h'
      rw [e, eb, ec, el] at h
      rw [e] at h'
      rw [e, eb, ec, el]
      exact dec_blk_ok 53 _ _ b off n cp bs _ w hT hlen hwd h16 hcp hB z0 N4 N2 (by omega) q4 (by omega) q2 h32 h33 (enc_of (by omega) q4 (by omega) q2 hP (by decide)) hL h h' find_53
  · have h' := properZ_none _ h
    have he : errD bs = 4 := by
      unfold errD
      rw [if_neg hne, if_pos (by simp [widZ, h'])]
    unfold decV
    rw [he, if_neg (by decide)]
    exact dec_no (opD bs) 0 0 0 _ _ _ b off n cp w hT hn hB.1 z0 (fun w hT => find_no _ w hT h)
end Go.Proofs.YtfojemocffelhaaDoor
