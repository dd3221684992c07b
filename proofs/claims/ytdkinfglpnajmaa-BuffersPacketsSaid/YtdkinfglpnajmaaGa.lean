
/- Pieces in memory; end, total. -/
import Derived.Test.YtdkinfglpnajmaaChecked
import Derived.Deep.RegionHeld3
import Derived.Deep.DrawnRows
import Derived.Deep.DeepCutAuto
import Derived.Deep.LoopGhost
import Derived.Outline
import Derived.Handy
import Derived.OwnWalk
import Derived.IntWalk
import Derived.Test.YtdkinfglpnajmaaOp
import Derived.Test.YtdkinfglpnajmaaPd
import Derived.Test.YtdkinfglpnajmaaBd
set_option linter.unusedVariables false
set_option linter.unusedSimpArgs false
set_option linter.unusedSectionVars false
namespace Go.Proofs.Ytdkinfglpnajmaa
open Go.RowKit
attribute [local go_sem ↓] Go.wp_at_zero Go.wp_at_succ

/-- a piece: two cells -/
def pcT : Ty Pc := Ty.flat 2 (fun p : Pc => [.int .i64 p.pos, .int .i64 p.len]) (fun _ => True) (fun _ => rfl)
theorem pc_at {w w' : World} {B n k : Nat} {A : Option Addr} {l : List Pc} (h : Sl pcT w (low B) A n l) (hb : Below B w w') (hk : k < n) : ∃ p b off, l[k]? = some p ∧ A = some ⟨b, off, none⟩ ∧ b < B ∧ b < w'.heap.size ∧
    w'.cell? ⟨b, off + k * 2, none⟩ = some (.int .i64 p.pos) ∧ w'.cell? ⟨b, off + k * 2 + 1, none⟩ = some (.int .i64 p.len) := by
  obtain ⟨p, b, off, cs, hx, hA, hbb, ⟨rfl, _⟩, hc⟩ := h.at hk
  have hc' := range_below hc hb hbb
  have h0 := hc' 0 _ rfl
  have h1 := hc' 1 _ rfl
  simp only [pcT, Ty.flat, Nat.add_zero] at h0 h1
  exact ⟨p, b, off, hx, hA, hbb, World.block_lt_of_cell? w' _ h0, h0, h1⟩
theorem take_total {l : List Pc} {k : Nat} {p : Pc} (h : l[k]? = some p) : total (l.take (k + 1)) = total (l.take k) + p.len := by
  obtain ⟨hk, e⟩ := List.getElem?_eq_some_iff.1 h
  rw [List.take_succ_eq_append_getElem hk, e, total_append]
  simp [total]
theorem total_take_le {l : List Pc} (h : okL l) (k : Nat) : 0 ≤ total (l.take k) ∧ total (l.take k) ≤ total l := by
  have h1 : okL (l.take k) := fun p hp => h p (List.mem_of_mem_take hp)
  have h2 : okL (l.drop k) := fun p hp => h p (List.mem_of_mem_drop hp)
  have h3 := total_append (l.take k) (l.drop k)
  rw [List.take_append_drop] at h3
  have := total_nonneg h1
  have := total_nonneg h2
  omega
theorem end_any (a n : Int) (w : World) (h0 : 0 ≤ a) (h1 : 0 ≤ n) (h2 : a + n ≤ 9223372036854775807) :
    Calls Try.prog 26 #[.agg #[.int .i64 a, .int .i64 n]] w fun e w' => e = .returned (.int .i64 (a + n)) ∧ Kept w w' := by
  have hw : IntKind.i64.wrap (a + n) = a + n := IntWalk.i64_in _ ⟨by omega, by omega⟩
  go_enter Try.func26, Try.ntmps26
  go_wp2_with fail
  go_ret
  exact ⟨ret_int (by simp_all), by go_grown⟩
set_option maxRecDepth 100000 in
set_option maxHeartbeats 1000000 in
theorem total_any (A : Option Addr) (n c : Nat) (l : List Pc) (w : World) (hl : Sl pcT w (low w.heap.size) A n l) (hok : okL l) (ht : total l ≤ 65536) (hn : n ≤ 300) :
    Calls Try.prog 25 #[.slice A n c] w fun e w' => e = .returned (.int .i64 (total l)) ∧ Kept w w' := by
  have hln := Lib.hid hl.1
  go_enter Try.func25, Try.ntmps25
  go_wp2_with fail
  go_loopg [3, 8] n (fun g s3 s8 wr => ∃ (k : Nat) (z : Int), k + g = n ∧ s8 = .int .i64 (k : Int) ∧ Hid (z = total (l.take k)) ∧ s3 = .int .i64 z ∧ Kept w wr)
  case atStart => exact ⟨0, 0, by omega, by rfl, Lib.hid rfl, by rfl, Below.refl _ _⟩
  case round =>
    obtain ⟨k, z, hk, rfl, hz, rfl, hkw⟩ := hrel
    have hb := total_take_le hok k
    rw [← hz.out] at hb
    obtain ⟨hb1, hb2⟩ := hb
    by_cases hlt : k < n
    · obtain ⟨p, b, off, hx, rfl, hbb, hbw, c0, c1⟩ := pc_at hl hkw hlt
      have hp := hok p (List.mem_of_getElem? hx)
      have hp2 := (total_take_le hok (k + 1)).2
      rw [take_total hx, ← hz.out] at hp2
      have hp1 := hp.2
      have htk := Lib.hid (take_total hx)
      have hlt' : (k : Int) < (n : Int) := by omega
      clear hx hp
      go_wp2_with fail
      go_roundg (gk - 1)
      case measure => omega
      case rel => exact ⟨k + 1, z + p.len, by omega, by go_num, Lib.hid (by rw [htk.out, hz.out]), by go_num, hkw.alloc hkw.size _⟩
    · have hkn : k = n := by omega
      have hlt' : (n : Int) ≤ (k : Int) := by omega
      have hz2 : z = total l := by rw [hz.out, List.take_of_length_le (by have := hln.out; omega)]
      replace hz2 := Lib.hid hz2
      clear hkn
      go_wp2_with fail
      go_ret
      exact ⟨by rw [hz2.out]; rfl, hkw⟩
end Go.Proofs.Ytdkinfglpnajmaa
