/- Contracts of the shelf, and the small functions of an inquiry. -/
import Derived.Shelf.Strings.FuncGrows
import Derived.Ground.GgwProg
import Derived.Ground.NamesProg
import Derived.Test.YtfojemocffelhaaDoorChecked
import Derived.Shelf.Strings.Repeat
import Derived.Shelf.GgClosure.StringsIndexFunc
import Derived.Laws.RangeString
import Derived.Laws.RangeAny
import Derived.Lib.TrimByte
import Derived.Lib.Strings
import Derived.Lib.Repeat
import Derived.Deep.RegionHeld3
import Derived.Deep.DrawnRows
import Derived.Deep.DeepCutAuto
import Derived.Deep.LoopGhost
import Derived.Outline
import Derived.Handy
import Derived.OwnWalk
import Derived.Test.YtfojemocffelhaaDoorSo
import Derived.Laws.BitsAllLaws
import Derived.Deep.QuietTactic
import Derived.BigQuiet
import Derived.StillTailTactics
import Derived.Lib.AppendStr
set_option linter.unusedVariables false
set_option linter.unusedSimpArgs false
set_option linter.unusedSectionVars false
/- strings.ContainsFunc's contract of the shelf, laid at this program (printed by the kit's lay-plain.mjs). -/
namespace Go.Proofs
open Go.Shelf
def YtfojemocffelhaaDoor.laysContains_ren : Go.Shelf.Ren := ⟨fun | 17 => 52 | 15 => 70 | 20 => 84 | n => n, fun | 9 => 9 | 23 => 97 | 4 => 4 | 3 => 3 | 0 => 0 | 21 => 21 | n => n, fun | n => n⟩
theorem YtfojemocffelhaaDoor.laysContains : Go.Proofs.LaysGw.n17 Tryd.prog YtfojemocffelhaaDoor.laysContains_ren := {
  mixed := by kernel_rfl
  f15 := Tryd.func70.trans (congrArg some (by kernel_rfl))
  f17 := Tryd.func52.trans (congrArg some (by kernel_rfl))
  f20 := Tryd.func84.trans (congrArg some (by kernel_rfl))
  t0 := Tryd.underlying0
  a0 := Tryd.isAgg0
  z0 := Tryd.sizeOf0
  v0 := Tryd.zeroValue0
  i0 := by kernel_rfl
  t3 := Tryd.underlying3
  a3 := Tryd.isAgg3
  z3 := Tryd.sizeOf3
  v3 := Tryd.zeroValue3
  i3 := by kernel_rfl
  t4 := Tryd.underlying4
  a4 := Tryd.isAgg4
  z4 := Tryd.sizeOf4
  v4 := Tryd.zeroValue4
  i4 := by kernel_rfl
  t9 := Tryd.underlying9
  a9 := Tryd.isAgg9
  z9 := Tryd.sizeOf9
  v9 := Tryd.zeroValue9
  i9 := by kernel_rfl
  t21 := Tryd.underlying21
  a21 := Tryd.isAgg21
  z21 := Tryd.sizeOf21
  v21 := Tryd.zeroValue21
  i21 := by kernel_rfl
  t23 := Tryd.underlying97
  a23 := Tryd.isAgg97
  z23 := Tryd.sizeOf97
  v23 := Tryd.zeroValue97
  i23 := by kernel_rfl }
end Go.Proofs
/- strings.Repeat's contract of the shelf, laid at this program (printed by the kit's lay-plain.mjs). -/
namespace Go.Proofs
open Go.Shelf
def YtfojemocffelhaaDoor.laysRepeat_ren : Go.Shelf.Ren := ⟨fun | 105 => 37 | 212 => 55 | 99 => 56 | 165 => 57 | 166 => 58 | 170 => 59 | 169 => 60 | 263 => 71 | 264 => 72 | 206 => 73 | 240 => 74 | 241 => 75 | 276 => 85 | 277 => 86 | n => n, fun | 9 => 9 | 3 => 3 | 4 => 4 | 20 => 20 | 0 => 0 | 46 => 66 | 109 => 98 | 5 => 5 | 72 => 102 | 76 => 106 | 51 => 23 | 146 => 121 | 53 => 38 | 148 => 123 | 70 => 100 | 37 => 32 | 75 => 105 | 127 => 125 | 164 => 134 | 80 => 109 | n => n, fun | n => n⟩
theorem YtfojemocffelhaaDoor.laysRepeat : Go.Proofs.Lays.n105 Tryd.prog YtfojemocffelhaaDoor.laysRepeat_ren := {
  mixed := by kernel_rfl
  f99 := Tryd.func56.trans (congrArg some (by kernel_rfl))
  f105 := Tryd.func37.trans (congrArg some (by kernel_rfl))
  f165 := Tryd.func57.trans (congrArg some (by kernel_rfl))
  f166 := Tryd.func58.trans (congrArg some (by kernel_rfl))
  f169 := Tryd.func60.trans (congrArg some (by kernel_rfl))
  f170 := Tryd.func59.trans (congrArg some (by kernel_rfl))
  f206 := Tryd.func73.trans (congrArg some (by kernel_rfl))
  f212 := Tryd.func55.trans (congrArg some (by kernel_rfl))
  f240 := Tryd.func74.trans (congrArg some (by kernel_rfl))
  f241 := Tryd.func75.trans (congrArg some (by kernel_rfl))
  f263 := Tryd.func71.trans (congrArg some (by kernel_rfl))
  f264 := Tryd.func72.trans (congrArg some (by kernel_rfl))
  f276 := Tryd.func85.trans (congrArg some (by kernel_rfl))
  f277 := Tryd.func86.trans (congrArg some (by kernel_rfl))
  t0 := Tryd.underlying0
  a0 := Tryd.isAgg0
  z0 := Tryd.sizeOf0
  v0 := Tryd.zeroValue0
  t3 := Tryd.underlying3
  a3 := Tryd.isAgg3
  z3 := Tryd.sizeOf3
  v3 := Tryd.zeroValue3
  t4 := Tryd.underlying4
  a4 := Tryd.isAgg4
  z4 := Tryd.sizeOf4
  v4 := Tryd.zeroValue4
  t5 := Tryd.underlying5
  a5 := Tryd.isAgg5
  z5 := Tryd.sizeOf5
  v5 := Tryd.zeroValue5
  t9 := Tryd.underlying9
  a9 := Tryd.isAgg9
  z9 := Tryd.sizeOf9
  v9 := Tryd.zeroValue9
  t20 := Tryd.underlying20
  a20 := Tryd.isAgg20
  z20 := Tryd.sizeOf20
  v20 := Tryd.zeroValue20
  t37 := Tryd.underlying32
  a37 := Tryd.isAgg32
  z37 := Tryd.sizeOf32
  v37 := Tryd.zeroValue32
  t46 := Tryd.underlying66
  a46 := Tryd.isAgg66
  z46 := Tryd.sizeOf66
  v46 := Tryd.zeroValue66
  t51 := Tryd.underlying23
  a51 := Tryd.isAgg23
  z51 := Tryd.sizeOf23
  v51 := Tryd.zeroValue23
  t53 := Tryd.underlying38
  a53 := Tryd.isAgg38
  z53 := Tryd.sizeOf38
  v53 := Tryd.zeroValue38
  t70 := Tryd.underlying100
  a70 := Tryd.isAgg100
  z70 := Tryd.sizeOf100
  v70 := Tryd.zeroValue100
  t72 := Tryd.underlying102
  a72 := Tryd.isAgg102
  z72 := Tryd.sizeOf102
  v72 := Tryd.zeroValue102
  t75 := Tryd.underlying105
  a75 := Tryd.isAgg105
  z75 := Tryd.sizeOf105
  v75 := Tryd.zeroValue105
  t76 := Tryd.underlying106
  a76 := Tryd.isAgg106
  z76 := Tryd.sizeOf106
  v76 := Tryd.zeroValue106
  t109 := Tryd.underlying98
  a109 := Tryd.isAgg98
  z109 := Tryd.sizeOf98
  v109 := Tryd.zeroValue98
  t127 := Tryd.underlying125
  a127 := Tryd.isAgg125
  z127 := Tryd.sizeOf125
  v127 := Tryd.zeroValue125
  t146 := Tryd.underlying121
  a146 := Tryd.isAgg121
  z146 := Tryd.sizeOf121
  v146 := Tryd.zeroValue121
  t148 := Tryd.underlying123
  a148 := Tryd.isAgg123
  z148 := Tryd.sizeOf123
  v148 := Tryd.zeroValue123
  t164 := Tryd.underlying134
  a164 := Tryd.isAgg134
  z164 := Tryd.sizeOf134
  v164 := Tryd.zeroValue134 }
end Go.Proofs
/- Plain laws of inquiries: printable characters, texts without spaces at their ends, the bytes. -/
namespace Go.Proofs.YtfojemocffelhaaDoor

def okb (b : UInt8) : Bool := decide (32 ≤ b.toNat) && decide (b.toNat ≤ 126)
def prL (l : List UInt8) : Bool := l.all okb
def badR (r : Nat) : Bool := decide ((r : Int) < 32) || decide ((126 : Int) < r)
theorem idxP (s : ByteArray) : ∀ (f pos : Nat), s.size ≤ pos + f → decide (0 ≤ Lib.idxFuncFrom badR true s f pos) = !prL (s.data.toList.drop pos)
  | 0, pos, h => by
    rw [List.drop_eq_nil_of_le (by simpa using h)]
    rfl
  | f + 1, pos, h => by
    unfold Lib.idxFuncFrom
    by_cases hp : pos < s.size
    · rw [if_pos hp]
      have hp' : pos < s.data.toList.length := by simpa using hp
      have hd : s.data.toList.drop pos = s[pos] :: s.data.toList.drop (pos + 1) := by
        rw [List.drop_eq_getElem_cons hp']
        rfl
      rw [hd]
      by_cases ha : s[pos].toNat < 128
      · rw [decode_ascii s pos hp ha]
        by_cases hb : badR s[pos].toNat = true
        · have h1 : okb s[pos] = false := by
            simp only [badR, Bool.or_eq_true, decide_eq_true_eq] at hb
            simp only [okb, Bool.and_eq_false_iff, decide_eq_false_iff_not]
            omega
          simp [hb, prL, h1]
        · have h1 : okb s[pos] = true := by
            simp only [badR, Bool.or_eq_true, decide_eq_true_eq] at hb
            simp only [okb, Bool.and_eq_true, decide_eq_true_eq]
            omega
          simp only [hb, Bool.false_eq_true, if_false]
          rw [idxP s f (pos + 1) (by omega)]
          simp [prL, h1]
      · have hh := (decode_high s pos hp (by omega)).1
        have hb : badR (Utf8.decode s pos).1 = true := by
          simp only [badR, Bool.or_eq_true, decide_eq_true_eq]
          omega
        have h1 : okb s[pos] = false := by
          simp only [okb, Bool.and_eq_false_iff, decide_eq_false_iff_not]
          omega
        simp [hb, prL, h1]
    · rw [if_neg hp, List.drop_eq_nil_of_le (by simpa using hp)]
      rfl
theorem idx_print (s : ByteArray) : decide (0 ≤ Lib.idxFunc badR true s) = !prL s.data.toList := by
  unfold Lib.idxFunc
  rw [idxP s s.size 0 (by omega), List.drop_zero]

theorem suffix_snoc (u : List UInt8) (x : UInt8) : Lib.hasSuffix (u ++ [x]) [32] = (x == 32) := by
  unfold Lib.hasSuffix List.isSuffixOf
  rw [List.reverse_append, List.reverse_singleton, List.reverse_singleton, List.singleton_append]
  rw [Bool.eq_iff_iff]
  simp only [List.isPrefixOf, Bool.and_true, beq_iff_eq]
  exact eq_comm
theorem suffix_nil : Lib.hasSuffix [] [32] = false := rfl
theorem trim_all (k : Nat) : Lib.trimRightB (List.replicate k 32) 32 = [] := by
  simp [Lib.trimRightB, List.dropWhile_replicate]
theorem trim_pad (v : List UInt8) (k : Nat) (h : Lib.hasSuffix v [32] = false) : Lib.trimRightB (v ++ List.replicate k 32) 32 = v := by
  have e : (v ++ List.replicate k (32 : UInt8)).reverse.dropWhile (· == 32) = v.reverse.dropWhile (· == 32) := by
    rw [List.reverse_append, List.reverse_replicate, List.dropWhile_append_of_pos]
    intro a ha
    simpa using (List.mem_replicate.1 ha).2
  unfold Lib.trimRightB
  rw [e]
  rcases List.eq_nil_or_concat v with rfl | ⟨u, x, rfl⟩
  · rfl
  · rw [List.concat_eq_append] at h ⊢
    rw [suffix_snoc] at h
    simp [List.dropWhile_cons, h]

def padL (l : List UInt8) (n : Nat) : List UInt8 := l ++ List.replicate (n - l.length) 32
def inqL (v p r : List UInt8) (rem : Bool) : List UInt8 := [0, if rem then 128 else 0, 4, 2, 31, 0, 0, 0] ++ padL v 8 ++ padL p 16 ++ padL r 4
theorem pad_len {l : List UInt8} {n : Nat} (h : l.length ≤ n) : (padL l n).length = n := by simp [padL]; omega
theorem inq_len {v p r : List UInt8} {rem : Bool} (hv : v.length ≤ 8) (hp : p.length ≤ 16) (hr : r.length ≤ 4) : (inqL v p r rem).length = 36 := by
  simp [inqL, pad_len hv, pad_len hp, pad_len hr]
theorem inq_8 {v p r : List UInt8} {rem : Bool} : (inqL v p r rem).drop 8 = padL v 8 ++ (padL p 16 ++ padL r 4) := by simp [inqL]
theorem inq_16 {v p r : List UInt8} {rem : Bool} (hv : v.length ≤ 8) : (inqL v p r rem).drop 16 = padL p 16 ++ padL r 4 := by
  rw [show 16 = 8 + 8 from rfl, ← List.drop_drop, inq_8, List.drop_append_of_le_length (by rw [pad_len hv]; omega), List.drop_eq_nil_of_le (by rw [pad_len hv]; omega)]
  rfl
theorem inq_32 {v p r : List UInt8} {rem : Bool} (hv : v.length ≤ 8) (hp : p.length ≤ 16) : (inqL v p r rem).drop 32 = padL r 4 := by
  rw [show 32 = 16 + 16 from rfl, ← List.drop_drop, inq_16 hv, List.drop_append_of_le_length (by rw [pad_len hp]; omega), List.drop_eq_nil_of_le (by rw [pad_len hp]; omega)]
  rfl
/-- the text that lies at i, in k bytes -/
def cutS (bs : List UInt8) (i k : Nat) : ByteArray := ⟨(Lib.trimRightB ((bs.drop i).take k) 32).toArray⟩
theorem cut_v {v p r : List UInt8} {rem : Bool} (hv : v.length ≤ 8) (h : Lib.hasSuffix v [32] = false) : cutS (inqL v p r rem) 8 8 = ⟨v.toArray⟩ := by
  unfold cutS
  rw [inq_8, List.take_append_of_le_length (by rw [pad_len hv]; omega), List.take_of_length_le (by rw [pad_len hv]; omega), padL, trim_pad _ _ h]
theorem cut_p {v p r : List UInt8} {rem : Bool} (hv : v.length ≤ 8) (hp : p.length ≤ 16) (h : Lib.hasSuffix p [32] = false) : cutS (inqL v p r rem) 16 16 = ⟨p.toArray⟩ := by
  unfold cutS
  rw [inq_16 hv, List.take_append_of_le_length (by rw [pad_len hp]; omega), List.take_of_length_le (by rw [pad_len hp]; omega), padL, trim_pad _ _ h]
theorem cut_r {v p r : List UInt8} {rem : Bool} (hv : v.length ≤ 8) (hp : p.length ≤ 16) (hr : r.length ≤ 4) (h : Lib.hasSuffix r [32] = false) : cutS (inqL v p r rem) 32 4 = ⟨r.toArray⟩ := by
  unfold cutS
  rw [inq_32 hv hp, List.take_of_length_le (by rw [pad_len hr]; omega), padL, trim_pad _ _ h]
theorem pr_pad {l : List UInt8} (n : Nat) (h : prL l = true) : prL (padL l n) = true := by
  unfold prL at *
  rw [List.all_eq_true] at *
  intro x hx
  rcases List.mem_append.1 hx with hx | hx
  · exact h x hx
  · rw [(List.mem_replicate.1 hx).2]; rfl
theorem pr_inq {v p r : List UInt8} {rem : Bool} (hlen : (inqL v p r rem).length = 36) (hv : prL v = true) (hp : prL p = true) (hr : prL r = true) : prL (((inqL v p r rem).drop 8).take 28) = true := by
  rw [List.take_of_length_le (by simp [hlen]), inq_8]
  have h1 := pr_pad 8 hv
  have h2 := pr_pad 16 hp
  have h3 := pr_pad 4 hr
  unfold prL at *
  rw [List.all_append, List.all_append, h1, h2, h3]
  rfl
theorem repeat_32 : ∀ n, Lib.repeatL [32] n = List.replicate n 32
  | 0 => rfl
  | n + 1 => by rw [Lib.repeatL, repeat_32 n]; rfl
/-- whether a text stands in an inquiry -/
def rightL (l : List UInt8) : Bool := prL l && !Lib.hasSuffix l [32]
/-- what an inquiry's error is -/
def inqE (v p r : List UInt8) : Int := if 8 < v.length ∨ 16 < p.length ∨ 4 < r.length then 3 else if rightL v && rightL p && rightL r then 0 else 4
end Go.Proofs.YtfojemocffelhaaDoor
/- The law's own functions of an inquiry: right, trimmed. -/
namespace Go.Proofs.YtfojemocffelhaaDoor
open Go.RowKit
attribute [local go_sem ↓] Go.wp_at_zero Go.wp_at_succ

theorem take_pr {s : ByteArray} {k : Nat} (hk : k < s.size) : prL (s.data.toList.take (k + 1)) = (prL (s.data.toList.take k) && okb s[k]) := by
  rw [List.take_succ_eq_append_getElem (by simpa using hk)]
  unfold prL
  rw [List.all_append]
  simp
  rfl
theorem bad_pr {s : ByteArray} {k : Nat} (hk : k < s.size) (h : okb s[k] = false) : rightL s.data.toList = false := by
  have h1 : prL s.data.toList = false := by
    unfold prL
    rw [List.all_eq_false]
    exact ⟨s[k], List.mem_of_getElem? (byte_at hk), by simp [h]⟩
  simp [rightL, h1]
set_option maxRecDepth 100000 in
set_option maxHeartbeats 1000000 in
theorem right_any (s : ByteArray) (w : World) (hs : s.size ≤ 30) : Calls Tryd.prog 22 #[.string s] w fun e w' => e = .returned (.bool (rightL s.data.toList)) ∧ w = w' := by
  go_enter Tryd.func22, Tryd.ntmps22
  go_wp2_with fail
  go_loop [3] (fun i => ∃ k : Nat, k ≤ s.size ∧ i = .int .i64 k ∧ prL (s.data.toList.take k) = true) (fun i => s.size - (intOf i).toNat)
  case atStart => exact ⟨0, by omega, rfl, rfl⟩
  case round =>
    obtain ⟨k, hk, rfl, hpr⟩ := hrel
    by_cases hlt : k < s.size
    · replace hpr := Lib.hid hpr
      have hlt' : (k : Int) < (s.size : Int) := by omega
      by_cases hlo : (s[k].toNat : Int) < 32
      · have hb := bad_pr hlt (by simp only [okb, Bool.and_eq_false_iff, decide_eq_false_iff_not]; omega)
        replace hb := Lib.hid hb
        go_wp2_with fail
        go_ret
        exact ⟨by rw [hb.out] <;> rfl, rfl⟩
      · have hlo' : 32 ≤ (s[k].toNat : Int) := by omega
        by_cases hhi : 126 < (s[k].toNat : Int)
        · have hb := bad_pr hlt (by simp only [okb, Bool.and_eq_false_iff, decide_eq_false_iff_not]; omega)
          replace hb := Lib.hid hb
          go_wp2_with fail
          go_ret
          exact ⟨by rw [hb.out] <;> rfl, rfl⟩
        · have hok : okb s[k] = true := by simp only [okb, Bool.and_eq_true, decide_eq_true_eq]; omega
          replace hok := Lib.hid hok
          have hhi' : (s[k].toNat : Int) ≤ 126 := by omega
          go_wp2_with fail
          go_round
          case rel => exact ⟨k + 1, by omega, by go_num, by rw [take_pr hlt, hpr.out, hok.out]; rfl⟩
          case measure => simp [intOf]; omega
    · have hks : k = s.size := by omega
      subst hks
      rw [List.take_of_length_le (by simp)] at hpr
      replace hpr := Lib.hid hpr
      by_cases h0 : s.size = 0
      · have hr : rightL s.data.toList = true := by
          have e : s.data.toList = [] := List.eq_nil_of_length_eq_zero (by simpa using h0)
          rw [e]; rfl
        replace hr := Lib.hid hr
        have h0' : (s.size : Int) = 0 := by omega
        go_wp2_with fail
        go_ret
        exact ⟨by rw [hr.out] <;> rfl, rfl⟩
      · have hn : s.size - 1 < s.size := by omega
        have hl : s.data.toList = s.data.toList.take (s.size - 1) ++ [s[s.size - 1]] := by
          have h1 := List.take_succ_eq_append_getElem (l := s.data.toList) (i := s.size - 1) (by simpa using hn)
          rw [List.take_of_length_le (by simp; omega)] at h1
          exact h1
        have hr : rightL s.data.toList = !(s[s.size - 1] == 32) := by
          unfold rightL
          rw [hpr.out]
          conv => lhs; rw [hl]
          rw [suffix_snoc]
          rfl
        replace hr := Lib.hid hr
        replace hl := Lib.hid hl
        have h0' : 0 < (s.size : Int) := by omega
        have h0e : ((s.size : Int) == 0) = false := by simpa using h0
        by_cases hz : (s[s.size - 1].toNat : Int) = 32
        · have he : s[s.size - 1] = 32 := UInt8.toNat_inj.1 (by show _ = 32; omega)
          replace he := Lib.hid he
          go_wp2_with fail
          go_ret
          exact ⟨by rw [hr.out, he.out] <;> rfl, rfl⟩
        · have he : (s[s.size - 1] == 32) = false := by
            rw [beq_eq_false_iff_ne]
            intro h
            exact hz (by rw [h]; rfl)
          replace he := Lib.hid he
          have hz2 : ((s[s.size - 1].toNat : Int) != 32) = true := by simpa using hz
          go_wp2_with fail
          go_ret
          exact ⟨by rw [hr.out, he.out] <;> rfl, rfl⟩
set_option maxRecDepth 100000 in
set_option maxHeartbeats 1000000 in
theorem trimmed_any (b off n c : Nat) (bs : List UInt8) (w : World) (hl : bs.length = n) (hn : n ≤ 60) (hnc : n ≤ c) (hB : Bs w b off bs) :
    Calls Tryd.prog 24 #[.slice (some ⟨b, off, none⟩) n c] w fun e w' => e = .returned (.string ⟨(Lib.trimRightB bs 32).toArray⟩) ∧ w = w' := by
  have hbw := hB.1
  replace hl := Lib.hid hl
  go_enter Tryd.func24, Tryd.ntmps24
  go_wp2_with fail
  go_loop [3] (fun i => ∃ k : Nat, k ≤ n ∧ i = .int .i64 k ∧ ∀ (j : Nat) b, k ≤ j → bs[j]? = some b → b = 32) (fun i => (intOf i).toNat)
  case atStart => exact ⟨n, by omega, rfl, fun j b hj hb => by have := (List.getElem?_eq_some_iff.1 hb).1; have := hl.out; omega⟩
  case round =>
    obtain ⟨k, hk, rfl, hall⟩ := hrel
    replace hall := Lib.hid hall
    by_cases h0 : k = 0
    · subst h0
      have he : Lib.trimRightB bs 32 = bs.take 0 := Lib.trimRightB_take bs 32 0 (by omega) hall.out (fun b h => by omega)
      replace he := Lib.hid he
      have hcv := (hB.take 0).conv 0 c (by simp)
      have hcv' := Lib.hid he
      go_wp2_with fail
      go_ret
      exact ⟨by rw [he.out]; try rfl, rfl⟩
    · obtain ⟨x, hx⟩ : ∃ x, bs[k - 1]? = some x := ⟨_, List.getElem?_eq_getElem (by have := hl.out; omega)⟩
      have hcell := hB.2 (k - 1) x hx
      have e1 : (k : Int) - 1 = ((k - 1 : Nat) : Int) := by omega
      replace hx := Lib.hid hx
      obtain ⟨j, rfl⟩ : ∃ j, k = j + 1 := ⟨k - 1, by omega⟩
      rw [Nat.add_sub_cancel] at hcell hx
      clear e1 h0
      by_cases hz : (x.toNat : Int) = 32
      · have he : x = 32 := UInt8.toNat_inj.1 (by show _ = 32; omega)
        replace he := Lib.hid he
        rw [hz] at hcell
        clear hz
        go_wp2_with fail
        go_round
        case rel => exact ⟨j, by omega, by go_num, fun i b hi hb => by
          by_cases hij : i = j
          · rw [hij, hx.out] at hb
            injection hb with hb
            rw [← hb, he.out]
          · exact hall.out i b (by omega) hb⟩
        case measure => simp [intOf] <;> omega
      · have hne : x ≠ 32 := fun h => hz (by rw [h]; decide)
        have he : Lib.trimRightB bs 32 = bs.take (j + 1) := Lib.trimRightB_take bs 32 (j + 1) (by have := hl.out; omega) hall.out (fun b _ h => by
          rw [Nat.add_sub_cancel, hx.out] at h
          injection h with h
          rw [← h]; exact hne)
        replace he := Lib.hid he
        replace hne := Lib.hid hne
        have hcv := (hB.take (j + 1)).conv (j + 1) c (by have := hl.out; simp; omega)
        go_wp2_with fail
        go_ret
        exact ⟨by rw [he.out]; try rfl, rfl⟩
end Go.Proofs.YtfojemocffelhaaDoor
/- printable, the inner function of DecodeInquiry, DecodeInquiry. -/
namespace Go.Proofs.YtfojemocffelhaaDoor
open Go.RowKit Go.Shelf
attribute [local go_sem ↓] Go.wp_at_zero Go.wp_at_succ

theorem print1 (x : Nat) (w : World) : Calls Tryd.prog 53 #[.int .i32 (x : Int)] w fun e w' => e = .returned (.bool (badR x)) ∧ Kept w w' := by
  by_cases h1 : (x : Int) < 32
  · have hb : badR x = true := by simp [badR, h1]
    replace hb := Lib.hid hb
    go_enter Tryd.func53, Tryd.ntmps53
    go_wp2_with fail
    go_ret
    exact ⟨by rw [hb.out]; rfl, Below.refl _ _⟩
  · have h1' : 32 ≤ (x : Int) := by omega
    by_cases h2 : 126 < (x : Int)
    · have hb : badR x = true := by simp [badR, h2]
      replace hb := Lib.hid hb
      go_enter Tryd.func53, Tryd.ntmps53
      go_wp2_with fail
      go_ret
      exact ⟨by rw [hb.out]; rfl, Below.refl _ _⟩
    · have h2' : (x : Int) ≤ 126 := by omega
      have hb : badR x = false := by simp only [badR, Bool.or_eq_false_iff, decide_eq_false_iff_not]; omega
      replace hb := Lib.hid hb
      go_enter Tryd.func53, Tryd.ntmps53
      go_wp2_with fail
      go_ret
      exact ⟨by rw [hb.out]; rfl, Below.refl _ _⟩
theorem pred1 (w : World) : PredGrows Tryd.prog 53 #[] badR w := fun W x _ _ => print1 x W
theorem printable_any (s : ByteArray) (w : World) : Calls Tryd.prog 35 #[.string s] w fun e w' => e = .returned (.bool (prL s.data.toList)) ∧ Kept w w' := by
  have eg : ∀ args w, (callFunc 53 args).run Tryd.prog w = .ok (.enter 53 args) w := enters_of Tryd.func53 (by kernel_rfl) rfl
  have h : ∀ w, Calls Tryd.prog 52 #[.string s, .func (.func 53) #[] #[]] w fun e w' => e = .returned (.bool (!prL s.data.toList)) ∧ Kept w w' := fun w => by
    rw [← idx_print]
    exact Any.strings_ContainsFunc_grows laysContains 53 #[] eg badR s w (pred1 w)
  obtain ⟨B, hB⟩ : ∃ B, prL s.data.toList = B := ⟨_, rfl⟩
  rw [hB] at h ⊢
  clear hB
  go_enter Tryd.func35, Tryd.ntmps35
  go_wp2_with (go_at_call 52; refine (h _).mono ?_; rintro e w' ⟨rfl, hk⟩)
  go_ret
  exact ⟨by simp, hk⟩
theorem trimR (s : ByteArray) (w : World) (hs : s.size ≤ 100) : Calls Tryd.prog 40 #[.string s, .string ⟨#[32]⟩] w fun e w' => e = .returned (.string ⟨(Lib.trimRightB s.data.toList 32).toArray⟩) ∧ w = w' :=
  (Any.strings_TrimRight_one laysTrimRight s 32 (by decide) w (by omega)).mono fun _ _ ⟨h1, h2⟩ => ⟨h1, h2.symm⟩
set_option maxRecDepth 100000 in
set_option maxHeartbeats 1000000 in
theorem cut_8 (b off n c B : Nat) (bs : List UInt8) (w : World) (hl : bs.length = n) (hn : 36 ≤ n) (hnc : n ≤ c) (hB : Bs w b off bs) (hb : w.cell? ⟨B, 0, none⟩ = some (.slice (some ⟨b, off, none⟩) n c)) (hBw : B < w.heap.size) :
    Calls Tryd.prog 39 #[.int .i64 8, .int .i64 16, .pointer (some ⟨B, 0, none⟩)] w fun e w' => e = .returned (.string (cutS bs 8 8)) ∧ w = w' := by
  have hbw := hB.1
  have hcv : ∀ cap, (convert 32 9 (.slice (some ⟨b, off + 8, none⟩) 8 cap)).run Tryd.prog w = .ok (.string ⟨((bs.drop 8).take 8).toArray⟩) w := fun cap => ((hB.drop 8).take 8).conv 8 cap (by simp; omega)
  have hsz : (⟨((bs.drop 8).take 8).toArray⟩ : ByteArray).size ≤ 100 := by simp [ByteArray.size]; omega
  have hT : ∀ w, _ := fun w => trimR ⟨((bs.drop 8).take 8).toArray⟩ w hsz
  have hT : ∀ w, Calls Tryd.prog 40 #[.string ⟨((bs.drop 8).take 8).toArray⟩, .string ⟨#[32]⟩] w fun e w' => e = .returned (.string (cutS bs 8 8)) ∧ w = w' := hT
  have h1 : (16 : Int) ≤ (n : Int) := by omega
  have h2 : (16 : Int) ≤ (c : Int) := by omega
  have h3 : (8 : Int) < (c : Int) := by omega
  clear hl hB
  generalize (⟨((bs.drop 8).take 8).toArray⟩ : ByteArray) = S at *
  go_enter Tryd.func39, Tryd.ntmps39
  go_wp2_with (go_at_call 40; refine (hT _).mono ?_; rintro e w' ⟨rfl, rfl⟩)
  go_ret
  exact ⟨rfl, rfl⟩
set_option maxRecDepth 100000 in
set_option maxHeartbeats 1000000 in
theorem cut_16 (b off n c B : Nat) (bs : List UInt8) (w : World) (hl : bs.length = n) (hn : 36 ≤ n) (hnc : n ≤ c) (hB : Bs w b off bs) (hb : w.cell? ⟨B, 0, none⟩ = some (.slice (some ⟨b, off, none⟩) n c)) (hBw : B < w.heap.size) :
    Calls Tryd.prog 39 #[.int .i64 16, .int .i64 32, .pointer (some ⟨B, 0, none⟩)] w fun e w' => e = .returned (.string (cutS bs 16 16)) ∧ w = w' := by
  have hbw := hB.1
  have hcv : ∀ cap, (convert 32 9 (.slice (some ⟨b, off + 16, none⟩) 16 cap)).run Tryd.prog w = .ok (.string ⟨((bs.drop 16).take 16).toArray⟩) w := fun cap => ((hB.drop 16).take 16).conv 16 cap (by simp; omega)
  have hsz : (⟨((bs.drop 16).take 16).toArray⟩ : ByteArray).size ≤ 100 := by simp [ByteArray.size]; omega
  have hT : ∀ w, _ := fun w => trimR ⟨((bs.drop 16).take 16).toArray⟩ w hsz
  have hT : ∀ w, Calls Tryd.prog 40 #[.string ⟨((bs.drop 16).take 16).toArray⟩, .string ⟨#[32]⟩] w fun e w' => e = .returned (.string (cutS bs 16 16)) ∧ w = w' := hT
  have h1 : (32 : Int) ≤ (n : Int) := by omega
  have h2 : (32 : Int) ≤ (c : Int) := by omega
  have h3 : (16 : Int) < (c : Int) := by omega
  clear hl hB
  generalize (⟨((bs.drop 16).take 16).toArray⟩ : ByteArray) = S at *
  go_enter Tryd.func39, Tryd.ntmps39
  go_wp2_with (go_at_call 40; refine (hT _).mono ?_; rintro e w' ⟨rfl, rfl⟩)
  go_ret
  exact ⟨rfl, rfl⟩
set_option maxRecDepth 100000 in
set_option maxHeartbeats 1000000 in
theorem cut_32 (b off n c B : Nat) (bs : List UInt8) (w : World) (hl : bs.length = n) (hn : 36 ≤ n) (hnc : n ≤ c) (hB : Bs w b off bs) (hb : w.cell? ⟨B, 0, none⟩ = some (.slice (some ⟨b, off, none⟩) n c)) (hBw : B < w.heap.size) :
    Calls Tryd.prog 39 #[.int .i64 32, .int .i64 36, .pointer (some ⟨B, 0, none⟩)] w fun e w' => e = .returned (.string (cutS bs 32 4)) ∧ w = w' := by
  have hbw := hB.1
  have hcv : ∀ cap, (convert 32 9 (.slice (some ⟨b, off + 32, none⟩) 4 cap)).run Tryd.prog w = .ok (.string ⟨((bs.drop 32).take 4).toArray⟩) w := fun cap => ((hB.drop 32).take 4).conv 4 cap (by simp; omega)
  have hsz : (⟨((bs.drop 32).take 4).toArray⟩ : ByteArray).size ≤ 100 := by simp [ByteArray.size]; omega
  have hT : ∀ w, _ := fun w => trimR ⟨((bs.drop 32).take 4).toArray⟩ w hsz
  have hT : ∀ w, Calls Tryd.prog 40 #[.string ⟨((bs.drop 32).take 4).toArray⟩, .string ⟨#[32]⟩] w fun e w' => e = .returned (.string (cutS bs 32 4)) ∧ w = w' := hT
  have h1 : (36 : Int) ≤ (n : Int) := by omega
  have h2 : (36 : Int) ≤ (c : Int) := by omega
  have h3 : (32 : Int) < (c : Int) := by omega
  clear hl hB
  generalize (⟨((bs.drop 32).take 4).toArray⟩ : ByteArray) = S at *
  go_enter Tryd.func39, Tryd.ntmps39
  go_wp2_with (go_at_call 40; refine (hT _).mono ?_; rintro e w' ⟨rfl, rfl⟩)
  go_ret
  exact ⟨rfl, rfl⟩
end Go.Proofs.YtfojemocffelhaaDoor
/- DecodeInquiry. -/
namespace Go.Proofs.YtfojemocffelhaaDoor
open Go.RowKit Go.Shelf
attribute [local go_sem ↓] Go.wp_at_zero Go.wp_at_succ

set_option maxRecDepth 100000 in
set_option maxHeartbeats 2000000 in
theorem dinq_short (A : Option Addr) (n c : Nat) (w : World) (hn : n < 36) :
    Calls Tryd.prog 23 #[.slice A n c] w fun e w' => e = .returned (.tuple #[.agg #[.string ⟨#[]⟩, .string ⟨#[]⟩, .string ⟨#[]⟩, .bool false], .int .i64 5]) ∧ Kept w w' := by
  have hn' : (n : Int) < 36 := by omega
  go_enter Tryd.func23, Tryd.ntmps23
  go_wp2_with fail
  refine bodyPost_ret (v := .tuple #[.agg #[.string ⟨#[]⟩, .string ⟨#[]⟩, .string ⟨#[]⟩, .bool false], .int .i64 5]) (by simp [results, Tryd.results23, go_sem]) rfl ?_
  exact ⟨rfl, by go_grown⟩
set_option maxRecDepth 100000 in
set_option maxHeartbeats 2000000 in
theorem dinq_zero (b off n c : Nat) (z : Int) (w : World) (hn : 36 ≤ n) (hb : b < w.heap.size) (h0 : w.cell? ⟨b, off, none⟩ = some (.int .u8 z)) (hz : z ≠ 0) :
    Calls Tryd.prog 23 #[.slice (some ⟨b, off, none⟩) n c] w fun e w' => e = .returned (.tuple #[.agg #[.string ⟨#[]⟩, .string ⟨#[]⟩, .string ⟨#[]⟩, .bool false], .int .i64 4]) ∧ Kept w w' := by
  have hn' : (36 : Int) ≤ (n : Int) := by omega
  have hn0 : (0 : Int) < (n : Int) := by omega
  go_enter Tryd.func23, Tryd.ntmps23
  go_wp2_with fail
  refine bodyPost_ret (v := .tuple #[.agg #[.string ⟨#[]⟩, .string ⟨#[]⟩, .string ⟨#[]⟩, .bool false], .int .i64 4]) (by simp [results, Tryd.results23, go_sem]) rfl ?_
  exact ⟨rfl, by go_grown⟩
set_option maxRecDepth 100000 in
set_option maxHeartbeats 4000000 in
theorem dinq_bad (b off n c : Nat) (bs : List UInt8) (w : World) (hl : bs.length = n) (hn : 36 ≤ n) (hnc : n ≤ c) (hB : Bs w b off bs) (h0 : w.cell? ⟨b, off, none⟩ = some (.int .u8 0)) (hp : prL ((bs.drop 8).take 28) = false) :
    Calls Tryd.prog 23 #[.slice (some ⟨b, off, none⟩) n c] w fun e w' => e = .returned (.tuple #[.agg #[.string ⟨#[]⟩, .string ⟨#[]⟩, .string ⟨#[]⟩, .bool false], .int .i64 4]) ∧ Kept w w' := by
  have hbw := hB.1
  have hn' : (36 : Int) ≤ (n : Int) := by omega
  have hn0 : (0 : Int) < (n : Int) := by omega
  have h1 : (36 : Int) ≤ (c : Int) := by omega
  have h3 : (8 : Int) < (c : Int) := by omega
  have hcv : ∀ W cap, Kept w W → (convert 32 9 (.slice (some ⟨b, off + 8, none⟩) 28 cap)).run Tryd.prog W = .ok (.string ⟨((bs.drop 8).take 28).toArray⟩) W := fun W cap hk => (((hB.kept hk).drop 8).take 28).conv 28 cap (by simp; omega)
  have hP : ∀ w, _ := fun w => printable_any ⟨((bs.drop 8).take 28).toArray⟩ w
  simp only [hp] at hP
  clear hl hB hp
  generalize (⟨((bs.drop 8).take 28).toArray⟩ : ByteArray) = S at *
  go_enter Tryd.func23, Tryd.ntmps23
  go_upto_region 1 with (fail)
  refine wp_name (B := w.heap.size) (w0 := w) (by go_grown) (fun W hcW hfW hz hkW => ?_)
  simp only [World.size_alloc] at hz
  have hcv := fun cap => hcv W cap hkW
  go_wp2_with (go_at_call 35; refine (hP _).mono ?_; rintro e w1 ⟨rfl, hk1⟩; obtain ⟨hc1, hf1⟩ := bcell hk1; have hs1 := hk1.size)
  refine bodyPost_ret (v := .tuple #[.agg #[.string ⟨#[]⟩, .string ⟨#[]⟩, .string ⟨#[]⟩, .bool false], .int .i64 4]) (by simp [results, Tryd.results23, go_sem, hc1, hcW, hz]) rfl ?_
  exact ⟨rfl, ((((hkW.trans (hk1.mono (by omega))).setCell (Nat.le_succ _) _).setCell (Nat.le_succ _) _).setCell (Nat.le_succ _) _).setCell (Nat.le_succ _) _⟩
set_option maxRecDepth 100000 in
set_option maxHeartbeats 4000000 in
theorem dinq_ok (b off n c : Nat) (bs : List UInt8) (x : UInt8) (w : World) (hl : bs.length = n) (hn : 36 ≤ n) (hnc : n ≤ c) (hB : Bs w b off bs) (h0 : w.cell? ⟨b, off, none⟩ = some (.int .u8 0)) (hx : bs[1]? = some x) (hp : prL ((bs.drop 8).take 28) = true) :
    Calls Tryd.prog 23 #[.slice (some ⟨b, off, none⟩) n c] w fun e w' => e = .returned (.tuple #[.agg #[.string (cutS bs 8 8), .string (cutS bs 16 16), .string (cutS bs 32 4), .bool (decide (128 ≤ (x.toNat : Int)))], .int .i64 0]) ∧ Kept w w' := by
  have hbw := hB.1
  have hn' : (36 : Int) ≤ (n : Int) := by omega
  have hn0 : (0 : Int) < (n : Int) := by omega
  have hn1 : (1 : Int) < (n : Int) := by omega
  have h1 : (36 : Int) ≤ (c : Int) := by omega
  have h3 : (8 : Int) < (c : Int) := by omega
  have hcv : ∀ W cap, Kept w W → (convert 32 9 (.slice (some ⟨b, off + 8, none⟩) 28 cap)).run Tryd.prog W = .ok (.string ⟨((bs.drop 8).take 28).toArray⟩) W := fun W cap hk => (((hB.kept hk).drop 8).take 28).conv 28 cap (by simp; omega)
  have hP : ∀ w, _ := fun w => printable_any ⟨((bs.drop 8).take 28).toArray⟩ w
  simp only [hp] at hP
  have c8 : ∀ W B, Kept w W → W.cell? ⟨B, 0, none⟩ = some (.slice (some ⟨b, off, none⟩) n c) → B < W.heap.size → _ := fun W B hk h1 h2 => (cut_8 b off n c B bs W hl hn hnc (hB.kept hk) h1 h2).mono fun _ _ ⟨h1, h2⟩ => And.intro h1 h2.symm
  have c16 : ∀ W B, Kept w W → W.cell? ⟨B, 0, none⟩ = some (.slice (some ⟨b, off, none⟩) n c) → B < W.heap.size → _ := fun W B hk h1 h2 => (cut_16 b off n c B bs W hl hn hnc (hB.kept hk) h1 h2).mono fun _ _ ⟨h1, h2⟩ => And.intro h1 h2.symm
  have c32 : ∀ W B, Kept w W → W.cell? ⟨B, 0, none⟩ = some (.slice (some ⟨b, off, none⟩) n c) → B < W.heap.size → _ := fun W B hk h1 h2 => (cut_32 b off n c B bs W hl hn hnc (hB.kept hk) h1 h2).mono fun _ _ ⟨h1, h2⟩ => And.intro h1 h2.symm
  have hx1 := hB.2 1 x hx
  have hand : bits .and .u8 (x.toNat : Int) 128 = if 128 ≤ x.toNat then 128 else 0 := by
    have h1 := u8_and_nat x.toNat 128 (by have := x.toNat_lt; omega) (by omega)
    have h2 : ∀ z, z < 256 → z &&& 128 = if 128 ≤ z then 128 else 0 := by decide
    rw [h2 _ x.toNat_lt] at h1
    refine h1.trans ?_
    split <;> rfl
  have hbz : (bits .and .u8 (x.toNat : Int) 128 != 0) = decide (128 ≤ (x.toNat : Int)) := by
    rw [hand]
    by_cases h : 128 ≤ x.toNat
    · rw [if_pos h]
      have : decide (128 ≤ (x.toNat : Int)) = true := by simp; omega
      rw [this]; rfl
    · rw [if_neg h]
      have : decide (128 ≤ (x.toNat : Int)) = false := by simp; omega
      rw [this]; rfl
  generalize decide (128 ≤ (x.toNat : Int)) = Bz at *
  clear hl hB hp hx hand
  generalize (⟨((bs.drop 8).take 28).toArray⟩ : ByteArray) = S at *
  generalize cutS bs 8 8 = S1 at *
  generalize cutS bs 16 16 = S2 at *
  generalize cutS bs 32 4 = S3 at *
  go_enter Tryd.func23, Tryd.ntmps23
  go_upto_region 1 with (fail)
  refine wp_name (B := w.heap.size) (w0 := w) (by go_grown) (fun W hcW hfW hz hkW => ?_)
  simp only [World.size_alloc] at hz
  have hcv := fun cap => hcv W cap hkW
  go_wp2_with (go_at_call 35; refine (hP _).mono ?_; rintro e w1 ⟨rfl, hk1⟩; obtain ⟨hc1, hf1⟩ := bcell hk1; have hs1 := hk1.size)
  have hkw1 : Kept w w1 := hkW.trans (hk1.mono (by omega))
  have hb0 : w1.cell? ⟨w.heap.size, 0, none⟩ = some (.slice (some ⟨b, off, none⟩) n c) := (hc1 _ _ (by omega)).trans ((hcW _ _).trans (by simp))
  have hx2 : w1.cell? ⟨b, off + 1, none⟩ = some (.int .u8 (x.toNat : Int)) := (hkw1.cell (p := ⟨b, off + 1, none⟩) hbw).trans hx1
  have d8 := c8 w1.drew w.heap.size hkw1.drew hb0 (show _ < w1.heap.size by omega)
  have d16 := c16 w1.drew w.heap.size hkw1.drew hb0 (show _ < w1.heap.size by omega)
  have d32 := c32 w1.drew w.heap.size hkw1.drew hb0 (show _ < w1.heap.size by omega)
  clear c8 c16 c32
  refine wp_region_still_tail 12 (by kernel_rfl) (by kernel_rfl) ?_
  simp only [List.take_succ_cons, List.take_zero, List.drop_succ_cons, List.drop_zero]
  still_step
  still_call d8
  still_step
  still_call d16
  still_step
  still_call d32
  clear d8 d16 d32
  repeat still_step
  try refine wpStill_nil ?_
  go_wp2_with fail
  refine bodyPost_ret (v := .tuple #[.agg #[.string S1, .string S2, .string S3, .bool Bz], .int .i64 0]) (by simp [results, Tryd.results23, go_sem, hc1, hcW, hz]) rfl ?_
  exact ⟨rfl, ((((hkw1.drew).setCell (Nat.le_succ _) _).setCell (Nat.le_succ _) _).setCell (Nat.le_succ _) _).setCell (Nat.le_succ _) _⟩
end Go.Proofs.YtfojemocffelhaaDoor
/- Repeat, HasSuffix, DecodeCapacity; appending a text. -/
namespace Go.Proofs.YtfojemocffelhaaDoor
open Go.RowKit Go.Shelf
attribute [local go_sem ↓] Go.wp_at_zero Go.wp_at_succ

theorem extraRepeat : Builder.Extra Tryd.prog laysRepeat_ren where
  sizeBuilder := by kernel_rfl
  liesBuilder := by kernel_rfl
  t5 := Tryd.underlying5
  a5 := Tryd.isAgg5
  z5 := Tryd.sizeOf5
  v5 := Tryd.zeroValue5
  infoByte := by kernel_rfl
  cellsByte := by kernel_rfl
  sizeByte := by kernel_rfl
  neB5 := by decide
theorem rep_any (n : Nat) (w : World) (hn : n ≤ 100) : Calls Tryd.prog 37 #[.string ⟨#[32]⟩, .int .i64 (n : Int)] w fun e w' => e = .returned (.string ⟨(List.replicate n (32 : UInt8)).toArray⟩) ∧ Kept w w' := by
  have h := Any.strings_Repeat laysRepeat extraRepeat ⟨#[32]⟩ n w (by omega) (by show 1 * n ≤ _; omega)
  rw [show (⟨#[32]⟩ : ByteArray).data.toList = [32] from rfl, repeat_32] at h
  exact h
theorem suffix_any (s : ByteArray) (w : World) (hs : s.size ≤ 100) : Calls Tryd.prog 36 #[.string s, .string ⟨#[32]⟩] w fun e w' => e = .returned (.bool (Lib.hasSuffix s.data.toList [32])) ∧ w = w' :=
  (Any.strings_HasSuffix laysSuffix s ⟨#[32]⟩ w (by omega)).mono fun _ _ ⟨h1, h2⟩ => ⟨h1, h2.symm⟩

set_option maxRecDepth 100000 in
set_option maxHeartbeats 2000000 in
theorem dcap_bad (A : Option Addr) (n c : Nat) (w : World) (hn : n ≠ 8) :
    Calls Tryd.prog 26 #[.slice A n c] w fun e w' => e = .returned (.tuple #[.agg #[.int .u32 0, .int .u32 0], .int .i64 5]) ∧ Kept w w' := by
  have hn' : ((n : Int) != 8) = true := by
    rw [bne_iff_ne]
    omega
  go_enter Tryd.func26, Tryd.ntmps26
  go_wp2_with fail
  refine bodyPost_ret (v := .tuple #[.agg #[.int .u32 0, .int .u32 0], .int .i64 5]) (by simp [results, Tryd.results26, go_sem]) rfl ?_
  exact ⟨rfl, by go_grown⟩
set_option maxRecDepth 100000 in
set_option maxHeartbeats 4000000 in
theorem dcap_ok (b off c : Nat) (l1 l2 : List UInt8) (w : World) (h1 : l1.length = 4) (h2 : l2.length = 4) (hc : 8 ≤ c) (hB : Bs w b off (l1 ++ l2)) :
    Calls Tryd.prog 26 #[.slice (some ⟨b, off, none⟩) 8 c] w fun e w' => e = .returned (.tuple #[.agg #[.int .u32 (accN l1), .int .u32 (accN l2)], .int .i64 0]) ∧ Kept w w' := by
  have hbw := hB.1
  have hn1 : ∀ W cap, Kept w W → _ := fun W cap hk => (number4 b off cap l1 W h1 (fun j x hx => (hB.kept hk).2 j x (by rw [List.getElem?_append_left (by have := (List.getElem?_eq_some_iff.1 hx).1; omega)]; exact hx)))
  have hn2 : ∀ W cap, Kept w W → _ := fun W cap hk => (number4 b (off + 4) cap l2 W h2 (fun j x hx => by
    rw [Nat.add_assoc]
    exact (hB.kept hk).2 (4 + j) x (by rw [List.getElem?_append_right (by omega), h1, Nat.add_sub_cancel_left]; exact hx)))
  have hc1 : (4 : Int) < (c : Int) := by omega
  have hc2 : (8 : Int) ≤ (c : Int) := by omega
  have hc3 : (4 : Int) ≤ (c : Int) := by omega
  have hc4 : ¬ c = 4 := by omega
  generalize accN l1 = a1 at *
  generalize accN l2 = a2 at *
  clear h1 h2 hB hc
  go_enter Tryd.func26, Tryd.ntmps26
  go_wp2_with fail
  refine wp_name (B := w.heap.size) (w0 := w) (by go_grown) (fun W hcW hfW hz hkW => ?_)
  simp only [World.size_alloc] at hz
  have c1 := hn1 W.drew c hkW.drew
  have c2 := hn2 W.drew (c - 4) hkW.drew
  clear hn1 hn2
  refine wp_region_still_tail 7 (by kernel_rfl) (by kernel_rfl) ?_
  simp only [List.take_succ_cons, List.take_zero, List.drop_succ_cons, List.drop_zero]
  still_step
  still_step
  still_call c1
  still_step
  still_step
  still_call c2
  clear c1 c2
  repeat still_step
  try refine wpStill_nil ?_
  go_wp2_with fail
  refine bodyPost_ret (v := .tuple #[.agg #[.int .u32 a1, .int .u32 a2], .int .i64 0]) (by simp [results, Tryd.results26, go_sem, hcW, hz]) rfl ?_
  exact ⟨rfl, (hkW.drew.setCell (Nat.le_refl _) _).setCell (Nat.le_refl _) _⟩

theorem str_cells (t : ByteArray) : Lib.strCells t = u8C t.data.toList := rfl
/-- a text behind the bytes that the call owns -/
theorem wp_append_str {W : World} {o : Oper} {a : Act} {K : Act → World → Prop} {Q : Exit → Act → World → Prop} (s x : Operand)
    (ho : o.op = .call { callee := .builtin .append, args := #[s, x], argTypes := #[32, 9] }) (base : Nat) (v : Value) (n : Nat) (l : List UInt8) (hs : a.eval s = v) (hown : W.ownsRow base 5 1 v n (u8C l))
    (t : ByteArray) (hx : a.eval x = .string t) (hn : n + t.size ≤ 1000) (hbase : base ≤ W.heap.size)
    (h : ∀ v' w', w'.ownsRow base 5 1 v' (n + t.size) (u8C (l ++ t.data.toList)) → Below base W w' → K (a.put o.dst v') w') : o.wp Tryd.prog a W K Q := by
  obtain ⟨i5, hi5, hz50, hz51, hz52⟩ := info_parts info5
  obtain ⟨v', w', hr, h2, h3, h4⟩ := Lib.run_append_own_string (P := Tryd.prog) W base 32 9 o.type 5 i5 Tryd.underlying32 Tryd.underlying9 hi5 hz50 hz51 hz52 v n _ hown t (by unfold maxLen; omega) (by omega) hbase
  unfold Oper.wp execOp
  simp only [ho, resolve, invoke, builtin, Sem.run_bind, Sem.run_pure, Result.andThen_ok, List.map_toArray, List.map_cons, List.map_nil, hs, hx, hr]
  refine h v' w' ?_ ((Below.refl _ _).grown h3 hbase (fun k hk => (hown.lt k hk).1))
  rw [u8C_append, ← str_cells]
  exact h2
end Go.Proofs.YtfojemocffelhaaDoor
