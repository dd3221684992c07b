/- Endpoints and Find. -/
import Derived.Test.YtjgncofhobhjdaaDoorChecked
import Derived.Deep.RegionHeld3
import Derived.Deep.DrawnRows
import Derived.Deep.DeepCutAuto
import Derived.Deep.LoopGhost
import Derived.Outline
import Derived.Handy
import Derived.OwnWalk
import Derived.BigQuiet
import Derived.Deep.RegionLaw
import Derived.Test.YtjgncofhobhjdaaDoorN14
import Derived.Test.YtjgncofhobhjdaaDoorN4
import Derived.Test.YtjgncofhobhjdaaDoorN12
import Derived.Test.YtjgncofhobhjdaaDoorN13
set_option linter.unusedVariables false
set_option linter.unusedSimpArgs false
set_option linter.unusedSectionVars false
/- Alternates and Endpoints (configurations). No condition but that the configuration lies in memory as it reads. -/
namespace Go.Proofs.YtjgncofhobhjdaaDoor
open Go.RowKit
attribute [local go_sem ↓] Go.wp_at_zero Go.wp_at_succ

/-- the setting that is asked for does not exist -/
def overP (p : List Alt × Int) : Bool := decide ((p.1.length : Int) ≤ p.2)
/-- the endpoints of the setting that is asked for -/
def epsP (p : List Alt × Int) : List EpD := ((p.1[p.2.toNat]?).map Alt.eps).getD []
def endsE (c : Cfg) (l : List Int) : Int := if l.length ≠ c.ifs.length then 5 else if (c.ifs.zip l).any overP then 7 else 0
def endsL (c : Cfg) (l : List Int) : List EpD := if endsE c l = 0 then (c.ifs.zip l).flatMap epsP else []
theorem flatMap_takeP {α β : Type} (f : α → List β) {l : List α} {i : Nat} {x : α} (h : l[i]? = some x) : (l.take (i + 1)).flatMap f = (l.take i).flatMap f ++ f x := by
  obtain ⟨h1, h2⟩ := List.getElem?_eq_some_iff.1 h
  rw [List.take_succ_eq_append_getElem h1, h2, List.flatMap_append]
  simp
theorem anyP_take {α : Type} (f : α → Bool) {l : List α} {i : Nat} {x : α} (h : l[i]? = some x) : (l.take (i + 1)).any f = ((l.take i).any f || f x) := by
  obtain ⟨h1, h2⟩ := List.getElem?_eq_some_iff.1 h
  rw [List.take_succ_eq_append_getElem h1, h2, List.any_append]
  simp
theorem epsP_le (x : List Alt) (s : Int) : (epsP (x, s)).length ≤ sumIf x := by
  unfold epsP
  simp only
  cases h : x[s.toNat]? with
  | none => exact Nat.zero_le _
  | some a =>
    have h1 := alt_le (List.mem_of_getElem? h)
    have : a.eps.length ≤ altSize a := by unfold altSize; omega
    show a.eps.length ≤ _
    omega
theorem zip_get {α β : Type} {a : List α} {b : List β} {i : Nat} {x : α} {y : β} (h1 : a[i]? = some x) (h2 : b[i]? = some y) : (a.zip b)[i]? = some (x, y) := by
  rw [List.getElem?_zip_eq_some]
  exact ⟨h1, h2⟩
theorem infoU8 : (Tryd.prog.info? 5).map (fun i => (i.zero, i.size, i.bytes)) = some (some (.int .u8 0), 1, 1) := info5
set_option maxRecDepth 100000 in
/-- Alternates: the first settings -/
theorem alternates_any (c : Cfg) (A : Option Addr) (cap : Nat) (w : World) (hn : c.ifs.length ≤ 100000) :
    Calls Tryd.prog 25 #[.agg (c.cells A cap).toArray] w fun e w' => (∃ b, e = .returned (.slice (some ⟨b, 0, none⟩) c.ifs.length c.ifs.length) ∧ w.heap.size ≤ b ∧ w'.heap[b]? = some (.cells ((List.replicate c.ifs.length (0 : Int)).map (Value.int .u8)).toArray 5 (0, 0))) ∧ Kept w w' := by
  obtain ⟨n, hnd⟩ : ∃ n, c.ifs.length = n := ⟨_, rfl⟩
  unfold Cfg.cells CfgD.cells
  rw [hnd] at hn ⊢
  have hmc : madeCells #[.int .u8 0] n = ((List.replicate n (0 : Int)).map (Value.int .u8)).toArray := by
    apply Array.ext_getElem?
    intro j
    have hs : (madeCells #[.int .u8 0] n).size = n := by simp [madeCells]
    conv => rhs; rw [List.getElem?_toArray, List.getElem?_map]
    by_cases hj : j < n
    · rw [made_at (v := .int .u8 0) hj (by simp [Nat.mod_one])]
      simp [List.getElem?_replicate]; omega
    · rw [Array.getElem?_eq_none (by rw [hs]; omega)]
      simp [List.getElem?_replicate]; omega
  have hmk := fun W' => mkB W' n hn
  have Hmc := hide hmc
  clear hmc
  go_enter Tryd.func25, Tryd.ntmps25
  go_wp2_with fail
  go_ret
  exact ⟨⟨w.heap.size + 1, by first | rfl | simp, by omega, by rw [← Hmc.out]; first | exact heap_at _ rfl | exact heap_at _ (World.size_alloc _ _).symm⟩, by go_grown⟩
set_option maxRecDepth 100000 in
set_option maxHeartbeats 8000000 in
theorem ends_any (c : Cfg) (A : Option Addr) (cap : Nat) (B : Option Addr) (m cb : Nat) (l : List Int) (w : World) (hC : CfgIs w (low w.heap.size) c A cap) (hz : sizeS c ≤ 1000000) (hmc : m ≤ cb) (hcb : cb ≤ maxLen) (hl : Sl u8T w (low w.heap.size) B m l) :
    Calls Tryd.prog 26 #[.agg (c.cells A cap).toArray, .slice B m cb] w fun e w' => (∃ A' n', e = .returned (.tuple #[.slice A' n' n', .int .i64 (endsE c l)]) ∧ Sl epT w' (fun b => w.heap.size ≤ b ∧ b < w'.heap.size) A' n' (endsL c l)) ∧ Kept w w' := by
  rw [sizeS_eq] at hz
  obtain ⟨iE, hiE, hE0, hE1, hE2⟩ := info_parts infoEp
  obtain ⟨n, hn⟩ : ∃ n, c.ifs.length = n := ⟨_, rfl⟩
  have hnc := hC.len
  have hcm := hC.cap
  rw [hn] at hnc
  unfold maxLen at hcm hcb
  have hlm := hl.1
  obtain ⟨⟨d0, d1, d2, d3, d4, d5, d6⟩, L⟩ := c
  unfold Cfg.cells CfgD.cells
  simp only at hn hz ⊢
  rw [hn]
  obtain ⟨er, her⟩ : ∃ er, endsE ⟨⟨d0, d1, d2, d3, d4, d5, d6⟩, L⟩ l = er := ⟨_, rfl⟩
  obtain ⟨rs, hrs⟩ : ∃ rs, endsL ⟨⟨d0, d1, d2, d3, d4, d5, d6⟩, L⟩ l = rs := ⟨_, rfl⟩
  rw [her, hrs]
  have hrs' : rs = if er = 0 then (L.zip l).flatMap epsP else [] := by rw [← hrs, ← her]; rfl
  have her' : er = if m ≠ n then 5 else if (L.zip l).any overP then 7 else 0 := by rw [← her, ← hlm, ← hn]; rfl
  have HC := hide hC
  have Hn := hide hn
  have Hl := hide hl
  have Hrs := hide hrs'
  have Her := hide her'
  clear hC hn her hrs hl hrs' her' hlm
  by_cases hmn : m = n
  case neg =>
    have he5 : er = 5 := by rw [Her.out, if_pos hmn]
    have hr0 : rs = [] := by rw [Hrs.out, he5]; rfl
    subst hr0
    subst he5
    have hq0 : ¬ (m : Int) = (n : Int) := by omega
    have hq : ((m : Int) == (n : Int)) = false := by simpa using hq0
    clear hq0
    clear hmn
    go_enter Tryd.func26, Tryd.ntmps26
    go_wp2_with fail
    go_returns
    exact ⟨⟨none, 0, rfl, Sl.nil _ _ _ _⟩, by go_grown⟩
  case pos =>
  subst hmn
  go_enter Tryd.func26, Tryd.ntmps26
  go_wp2_with fail
  refine wp_at (fun W => Kept w W) (by go_grown) (fun W hkW => ?_)
  go_loopg [6, 18] m (fun g s6 s18 wr => ∃ (i : Nat), i + g = m ∧ s18 = .int .i64 i ∧ Kept w wr ∧ Own epT 59 w.heap.size wr s6 ((L.zip l).take i |>.flatMap epsP).length ((L.zip l).take i |>.flatMap epsP) ∧ ((L.zip l).take i).any overP = false ∧ ((L.zip l).take i |>.flatMap epsP).length ≤ sumC (L.take i))
  case atStart => exact ⟨0, by omega, rfl, hkW, Own.nil _ _ _ _, rfl, by simp⟩
  case round =>
    obtain ⟨i, hi, rfl, hk, hown, hany, hle⟩ := hrel
    obtain ⟨acc, hacc⟩ : ∃ acc, ((L.zip l).take i |>.flatMap epsP) = acc := ⟨_, rfl⟩
    rw [hacc] at hown hle
    obtain ⟨p, hp⟩ : ∃ p, acc.length = p := ⟨_, rfl⟩
    rw [hp] at hown hle
    obtain ⟨Ao, co, rfl, ho1, ho2⟩ := hown.isSlice
    have Hi := hide hi
    have Hown := hide hown
    have Hany := hide hany
    have Hacc := hide hacc
    have Hp := hide hp
    clear hi hown hany hacc hp
    by_cases hlt : i < m
    case neg =>
      have hge : (m : Int) ≤ (i : Int) := by omega
      have hlz : (L.zip l).length = m := by rw [List.length_zip, Hn.out, Hl.out.1, Nat.min_self]
      have htk : (L.zip l).take i = L.zip l := List.take_of_length_le (by omega)
      have he0 : er = 0 := by
        rw [Her.out, if_neg (by simp), if_neg]
        rw [← htk, Hany.out]
        simp
      have hra : rs = acc := by rw [Hrs.out, if_pos he0, ← Hacc.out, htk]
      subst hra
      subst he0
      clear hlz htk
      go_wp2_with (go_at_call 63; refine (clipEp_any Ao p co ho1 ho2 _).mono ?_; rintro e w1 ⟨rfl, rfl⟩)
      go_returns
      exact ⟨⟨Ao, p, rfl, own_flat_new flat_ep Hown.out⟩, hk⟩
    case pos =>
    obtain ⟨x, b, off, A', c', hx, rfl, hbl, x0, hxc, hcm', hs⟩ := if_at HC.out hk (i := i) (by rw [Hn.out]; exact hlt)
    obtain ⟨bs, os, rfl, hbs, hcs⟩ := sl_bytes Hl.out (by omega)
    have s0 := (hk.cell (p := ⟨bs, os + i, none⟩) hbs).trans (hcs i hlt)
    have hbs' := Nat.lt_of_lt_of_le hbs hk.size
    have hz8 := sl_byte8 Hl.out i
    obtain ⟨zz, hzz⟩ : ∃ zz, byteAt l i = zz := ⟨_, rfl⟩
    rw [hzz] at s0 hz8
    obtain ⟨z0, z1⟩ := hz8
    obtain ⟨q, hq⟩ : ∃ q : Nat, zz = (q : Int) := ⟨zz.toNat, by omega⟩
    subst hq
    have hlx : l[i]? = some ((q : Nat) : Int) := by
      rw [← hzz]
      unfold byteAt
      rw [List.getD_eq_getElem?_getD, List.getElem?_eq_getElem (by rw [Hl.out.1]; exact hlt)]
      rfl
    have hzx := zip_get hx hlx
    have h2 := anyP_take overP hzx
    have h3 := flatMap_takeP epsP hzx
    have h4 := sumC_take (l := L) hx
    have h5 := sumC_le L (i + 1)
    have h6 := epsP_le x (q : Int)
    have hmem := List.mem_of_getElem? hzx
    obtain ⟨k, hkd⟩ : ∃ k, x.length = k := ⟨_, rfl⟩
    have hov : overP (x, (q : Int)) = decide ((k : Int) ≤ (q : Int)) := by rw [← hkd]; rfl
    rw [hov] at h2
    rw [hkd] at x0 hxc hs
    have hi0 : (0 : Int) ≤ (i : Int) := by omega
    have hlt' : (i : Int) < (m : Int) := by omega
    have hwi : IntKind.i64.wrap ((i : Int) + 1) = ((i + 1 : Nat) : Int) := by rw [IntKind.wrap_i64]; omega
    have hwq : IntKind.i64.wrap (q : Int) = (q : Int) := by rw [IntKind.wrap_i64]; omega
    unfold maxLen at hcm'
    have Hkd := hide hkd
    have H2 := hide h2
    have H3 := hide h3
    have Hov := hide hov
    have Hmem := hide hmem
    have hpq : p + (epsP (x, (q : Int))).length ≤ sumC (L.take (i + 1)) := by omega
    have hpz : p + (epsP (x, (q : Int))).length ≤ 1000000 := by omega
    have Hpq := hide hpq
    clear hx hlx hzx h2 h3 h4 h5 h6 hkd hov hmem hcs hzz hpq hle
    go_upto_region 7 with (fail)
    refine wp_at (fun V => V.heap[wr.heap.size]? = some (.cells #[.slice A' k c'] 50 (0, 0)) ∧ Kept wr V) ⟨heap_at _ rfl, by go_grown⟩ (fun V hV => ?_)
    obtain ⟨hVB, hkV⟩ := hV
    obtain ⟨bx, hbx⟩ : ∃ bx, wr.heap.size = bx := ⟨_, rfl⟩
    rw [hbx] at hVB
    simp only [hbx]
    have vb0 := cell_heap hVB (o := 0) rfl
    have lvb := heap_lt hVB
    have sv := (hkV.cell (p := ⟨bs, os + i, none⟩) hbs').trans s0
    have lbs := Nat.lt_of_lt_of_le hbs' hkV.size
    have hkwV := hk.trans' hkV
    have hownV := Hown.out.kept hkV
    have HhV := hide hownV
    have HkV := hide hkV
    clear hVB x0 s0 hbs' hk hbx hownV hkV Hown
    by_cases hover : k ≤ q
    case pos =>
      have hover' : (k : Int) ≤ (q : Int) := by omega
      have he7 : er = 7 := by
        rw [Her.out, if_neg (by simp), if_pos]
        rw [List.any_eq_true]
        exact ⟨_, Hmem.out, by rw [Hov.out]; simpa using hover⟩
      have hr0 : rs = [] := by rw [Hrs.out, he7]; rfl
      subst hr0
      subst he7
      clear hover
      go_region_held3 (fun w' => (∀ b o, b < V.heap.size → w'.cell? ⟨b, o, none⟩ = V.cell? ⟨b, o, none⟩) ∧ Below V.heap.size V w') (first | assumption | exact since_start | exact since_keep (by assumption) (Nat.le_refl _) hk | exact since_alloc (by assumption) (Nat.le_refl _)) (fail)
      go_wp2_with fail
      go_returns
      exact ⟨⟨none, 0, rfl, Sl.nil _ _ _ _⟩, hkwV.trans' (by go_grown)⟩
    case neg =>
    have hover' : ¬ (k : Int) ≤ (q : Int) := by omega
    have hqk : q < k := by omega
    have hqk' : (q : Int) < (k : Int) := by omega
    have hq0 : (0 : Int) ≤ (q : Int) := by omega
    obtain ⟨a, b2, off2, X, cx, E, ce, ha, rfl, hbl2, hcells, hdo, q1, q2, q3, q4, q5, q6⟩ := alt_at hs hkwV hqk
    have y8 := hcells 8 _ rfl
    have hep : epsP (x, (q : Int)) = a.eps := by unfold epsP; simp only [Int.toNat_natCast, ha]; rfl
    rw [hep] at hpz Hpq H3
    obtain ⟨e2, he2⟩ : ∃ e2, a.eps.length = e2 := ⟨_, rfl⟩
    rw [he2] at q3 y8 q6 hpz Hpq
    unfold maxLen at q4
    have Hq6 := hide q6
    have He2 := hide he2
    have Ha2 := hide H2.out
    have Hek := hide hover
    clear hcells ha hdo q5 q6 he2 hover hep H2
    go_region_held3 (fun w' => (∀ b o, b < V.heap.size → w'.cell? ⟨b, o, none⟩ = V.cell? ⟨b, o, none⟩) ∧ Below V.heap.size V w') (first | assumption | exact since_start | exact since_keep (by assumption) (Nat.le_refl _) hk | exact since_alloc (by assumption) (Nat.le_refl _)) (fail)
    go_upto_region 9 with (fail)
    go_region_law (refine step_append_sl (T := epT) rfl (.tmp 32) (.tmp 41) 54 rfl w.heap.size 59 iE _ 8 Tryd.underlying54 hiE hE0 hE1 hE2 rfl (by decide) _ p acc (by rfl) (by exact HhV.out.kept (by go_grown)) E e2 ce a.eps (by rfl) (by exact Hq6.out.keep (fun g hg => ⟨by have h1 : g < w.heap.size := hg; have h2 := hkwV.size; show g < V.heap.size; omega, fun e => by have h1 : g < w.heap.size := hg; have h2 := (HhV.out.lt e).1; omega⟩) (fun g o hg => hkwV.cell (p := ⟨g, o, none⟩) hg)) (by_oneEp _ _) (by unfold maxLen; omega) (by omega) (by exact hkwV.size) ?_; intro v7 w7 hown7 hg7 hb7 hat7)
    all_goals
      have hkw7 : Kept w w7 := hkwV.trans (by first | exact hb7 | exact of_drew hb7 | exact of_drew (of_drew hb7) | exact of_drew (of_drew (of_drew hb7)))
      have Hown7 := hide hown7
      have Hkw7 := hide hkw7
      clear hown7 hg7 hb7 hat7 hkw7
      obtain ⟨A7, c7, rfl, h71, h72⟩ := Hown7.out.isSlice
      go_wp2_with fail
      go_roundg (gk - 1)
      case measure => have := Hi.out; omega
      case rel =>
        have hacc' : ((L.zip l).take (i + 1) |>.flatMap epsP) = acc ++ a.eps := by rw [H3.out, Hacc.out]
        have hln : (acc ++ a.eps).length = p + e2 := by rw [List.length_append, Hp.out, He2.out]
        refine ⟨i + 1, by have := Hi.out; omega, rfl, Hkw7.out, ?_, ?_, ?_⟩
        · rw [hacc', hln]; exact Hown7.out
        · rw [Ha2.out, Hany.out]; simpa using Hek.out
        · rw [hacc', hln]; exact Hpq.out
end Go.Proofs.YtjgncofhobhjdaaDoor
/- Find (configurations). No condition but that the configuration lies in memory as it reads. Printed by gen_fl.py. -/
namespace Go.Proofs.YtjgncofhobhjdaaDoor
open Go.RowKit
attribute [local go_sem ↓] Go.wp_at_zero Go.wp_at_succ

theorem findRet3 {tm : Array Value} {w : World} {R : Nat} {a b c d e i : Value} {E : Int} (h6 : tm[6]? = some (.pointer (some ⟨R, 0, none⟩))) (h7 : tm[7]? = some i) (h8 : tm[8]? = some (.int .i64 E)) (h : w.heap[R]? = some (.cells #[a, b, c, d, e] 59 (0, 0))) : (results Tryd.f27 tm).run Tryd.prog w = .ok (.tuple #[.agg #[a, b, c, d, e], i, .int .i64 E]) w := by
  have c0 : w.cell? ⟨R, 0, none⟩ = some a := cell_heap h (o := 0) rfl
  have c1 : w.cell? ⟨R, 1, none⟩ = some b := cell_heap h (o := 1) rfl
  have c2 : w.cell? ⟨R, 2, none⟩ = some c := cell_heap h (o := 2) rfl
  have c3 : w.cell? ⟨R, 3, none⟩ = some d := cell_heap h (o := 3) rfl
  have c4 : w.cell? ⟨R, 4, none⟩ = some e := cell_heap h (o := 4) rfl
  simp [results, Tryd.results27, go_sem, Array.getD_eq_getD_getElem?, h6, h7, h8, c0, c1, c2, c3, c4]
/-- what Find returns -/
def FindPost (c : Cfg) (l : List Int) (ad : Int) (e : Ending) : Prop :=
  (endsE c l ≠ 0 ∧ e = .returned (.tuple #[.agg #[.int .u8 0, .bool false, .int .u8 0, .int .u16 0, .int .u8 0], .int .i64 0, .int .i64 (endsE c l)])) ∨
  (endsE c l = 0 ∧ (∃ i k : Nat, ∃ p x, (c.ifs.zip l)[i]? = some p ∧ (epsP p)[k]? = some x ∧ addrS x = ad ∧ e = .returned (.tuple #[.agg #[.int .u8 x.num, .bool x.inn, .int .u8 x.kind, .int .u16 x.max, .int .u8 x.ivl], .int .i64 (i : Int), .int .i64 0]))) ∨
  (endsE c l = 0 ∧ (∀ p ∈ c.ifs.zip l, ∀ x ∈ epsP p, addrS x ≠ ad) ∧ e = .returned (.tuple #[.agg #[.int .u8 0, .bool false, .int .u8 0, .int .u16 0, .int .u8 0], .int .i64 0, .int .i64 7]))
set_option maxRecDepth 100000 in
set_option maxHeartbeats 16000000 in
theorem find_any (c : Cfg) (A : Option Addr) (cap : Nat) (B : Option Addr) (m cb : Nat) (l : List Int) (ad : Int) (w : World) (hC : CfgIs w (low w.heap.size) c A cap) (hz : sizeS c ≤ 1000000) (hmc : m ≤ cb) (hcb : cb ≤ maxLen) (hl : Sl u8T w (low w.heap.size) B m l) :
    Calls Tryd.prog 27 #[.agg (c.cells A cap).toArray, .slice B m cb, .int .u8 ad] w fun e w' => FindPost c l ad e ∧ Kept w w' := by
  have hends := fun w' (hk : Kept w w') => ends_any c A cap B m cb l w' (hC.kept hk) hz hmc hcb (hl.kept hk)
  obtain ⟨PO, hPO⟩ : ∃ PO : Ending → Prop, PO = FindPost c l ad := ⟨_, rfl⟩
  rw [← hPO]
  obtain ⟨er, her⟩ : ∃ er, endsE c l = er := ⟨_, rfl⟩
  obtain ⟨n, hn⟩ : ∃ n, c.ifs.length = n := ⟨_, rfl⟩
  have hlm := hl.1
  have hcap : n ≤ cap := by rw [← hn]; exact hC.len
  have hcm := hC.cap
  unfold maxLen at hcm
  have hmn : er = 0 → m = n ∧ (c.ifs.zip l).any overP = false := by
    intro h0
    rw [← her] at h0
    unfold endsE at h0
    split at h0
    · exact absurd h0 (by decide)
    · rename_i hne
      split at h0
      · exact absurd h0 (by decide)
      · rename_i hov
        exact ⟨by rw [← hlm, ← hn]; simpa using hne, by simpa using hov⟩
  have hP1 : er ≠ 0 → PO (.returned (.tuple #[.agg #[.int .u8 0, .bool false, .int .u8 0, .int .u16 0, .int .u8 0], .int .i64 0, .int .i64 er])) := fun h => by rw [hPO, ← her]; exact .inl ⟨by rw [her]; exact h, rfl⟩
  have hP2 : er = 0 → ∀ (i k : Nat) p x, (c.ifs.zip l)[i]? = some p → (epsP p)[k]? = some x → addrS x = ad → PO (.returned (.tuple #[.agg #[.int .u8 x.num, .bool x.inn, .int .u8 x.kind, .int .u16 x.max, .int .u8 x.ivl], .int .i64 (i : Int), .int .i64 0])) := fun h i k p x h1 h2 h3 => by rw [hPO]; exact .inr (.inl ⟨by rw [her]; exact h, i, k, p, x, h1, h2, h3, rfl⟩)
  have hP3 : er = 0 → (∀ p ∈ c.ifs.zip l, ∀ x ∈ epsP p, addrS x ≠ ad) → PO (.returned (.tuple #[.agg #[.int .u8 0, .bool false, .int .u8 0, .int .u16 0, .int .u8 0], .int .i64 0, .int .i64 7])) := fun h h1 => by rw [hPO]; exact .inr (.inr ⟨by rw [her]; exact h, h1, rfl⟩)
  obtain ⟨⟨d0, d1, d2, d3, d4, d5, d6⟩, L⟩ := c
  simp only [her] at hends
  unfold Cfg.cells CfgD.cells at hends ⊢
  simp only [hn] at hends ⊢
  have HC := hide hC
  have Hn := hide hn
  have Hl := hide hl
  have HP1 := hide hP1
  have HP2 := hide hP2
  have HP3 := hide hP3
  have Hmn := hide hmn
  clear hC hn hl hP1 hP2 hP3 hmn her hPO hlm
  go_enter Tryd.func27, Tryd.ntmps27
  go_upto_region 1 with (fail)
  refine wp_at (fun W => W.heap[w.heap.size]? = some (.cells #[.int .u16 d0, .int .u8 d1, .int .u8 d2, .int .u8 d3, .bool d4, .bool d5, .int .u8 d6, .slice A n cap] 32 (0, 0)) ∧ W.heap[w.heap.size + 1]? = some (.cells #[.int .u8 0, .bool false, .int .u8 0, .int .u16 0, .int .u8 0] 59 (0, 0)) ∧ Kept w W) ⟨heap_past (heap_at _ rfl), heap_at _ (by first | rfl | simp), by go_grown⟩ (fun W hW => ?_)
  obtain ⟨hI, hT, hkW⟩ := hW
  obtain ⟨I0, hI0⟩ : ∃ I0, w.heap.size = I0 := ⟨_, rfl⟩
  obtain ⟨T, hTd⟩ : ∃ T, I0 + 1 = T := ⟨_, rfl⟩
  have hTw : w.heap.size ≤ T := by omega
  rw [hI0, hTd] at hT
  rw [hI0] at hI
  simp only [hI0, hTd]
  have lI := heap_lt hI
  have i0 := cell_heap hI (o := 0) rfl
  have i1 := cell_heap hI (o := 1) rfl
  have i2 := cell_heap hI (o := 2) rfl
  have i3 := cell_heap hI (o := 3) rfl
  have i4 := cell_heap hI (o := 4) rfl
  have i5 := cell_heap hI (o := 5) rfl
  have i6 := cell_heap hI (o := 6) rfl
  have i7 := cell_heap hI (o := 7) rfl
  have HI := hide hI
  have HT := hide hT
  have HkW := hide hkW
  clear hI hT hkW hI0 hTd
  go_upto_region 2 with (go_at_call 26; refine (hends _ HkW.out).mono ?_; rintro e W1 ⟨⟨A1, n1, rfl, hs1⟩, hk1⟩; clear hs1)
  have hT1 := heap_kept hk1 HT.out
  have hI1 := heap_kept hk1 HI.out
  have hkw1 := HkW.out.trans' hk1
  have lT := heap_lt hT1
  clear i0 i1 i2 i3 i4 i5 i6 i7 lI
  have lI := heap_lt hI1
  have i7 := cell_heap hI1 (o := 7) rfl
  have HT1 := hide hT1
  clear hT1 hI1 HT HI hk1
  by_cases h0 : er = 0
  case neg =>
    have hp := HP1.out h0
    have hq : (er == 0) = false := by simpa using h0
    have b0 := cell_heap HT1.out (o := 0) rfl
    have p0 := frozen_heap HT1.out (o := 0)
    have b1 := cell_heap HT1.out (o := 1) rfl
    have p1 := frozen_heap HT1.out (o := 1)
    have b2 := cell_heap HT1.out (o := 2) rfl
    have p2 := frozen_heap HT1.out (o := 2)
    have b3 := cell_heap HT1.out (o := 3) rfl
    have p3 := frozen_heap HT1.out (o := 3)
    have b4 := cell_heap HT1.out (o := 4) rfl
    have p4 := frozen_heap HT1.out (o := 4)
    have Hp := hide hp
    clear hp h0
    go_wp2_with fail
    refine bodyPost_ret (findRet3 (R := T) rfl rfl rfl (heap_store (heap_store (heap_store (heap_store (heap_store HT1.out _) _) _) _) _)) rfl ⟨Hp.out, ?_⟩
    exact hkw1.trans ((((((Below.refl _ _).setCell (p := ⟨T, 0, none⟩) hTw _).setCell (p := ⟨T, 1, none⟩) hTw _).setCell (p := ⟨T, 2, none⟩) hTw _).setCell (p := ⟨T, 3, none⟩) hTw _).setCell (p := ⟨T, 4, none⟩) hTw _)
  case pos =>
  subst h0
  obtain ⟨hmn, hov⟩ := Hmn.out (by trivial)
  subst hmn
  have Hov := hide hov
  clear hov
  go_wp2_with fail
  refine wp_at (fun V => V.heap[T]? = some (.cells #[.int .u8 0, .bool false, .int .u8 0, .int .u16 0, .int .u8 0] 59 (0, 0)) ∧ Kept w V) ⟨HT1.out, hkw1⟩ (fun V hV => ?_)
  obtain ⟨hVT, hkV⟩ := hV
  clear HT1 lT lI i7 hkw1
  go_loopg [28] m (fun g s28 wr => ∃ i : Nat, i + g = m ∧ s28 = .int .i64 i ∧ Kept w wr ∧ wr.heap[T]? = some (.cells #[.int .u8 0, .bool false, .int .u8 0, .int .u16 0, .int .u8 0] 59 (0, 0)) ∧ ∀ p ∈ (L.zip l).take i, ∀ x ∈ epsP p, addrS x ≠ ad)
  case atStart => exact ⟨0, by omega, rfl, hkV, hVT, by simp⟩
  case round =>
    clear hkV hVT
    obtain ⟨i, hi, rfl, hk, hT2, hno⟩ := hrel
    have Hi := hide hi
    have HT2 := hide hT2
    have Hno := hide hno
    clear hi hT2 hno
    by_cases hlt : i < m
    case neg =>
      have hge : (m : Int) ≤ (i : Int) := by omega
      have hlz : (L.zip l).length = m := by rw [List.length_zip, Hl.out.1]; have : L.length = m := Hn.out; omega
      have htk : (L.zip l).take i = L.zip l := List.take_of_length_le (by omega)
      have hno := Hno.out
      rw [htk] at hno
      have hp := HP3.out (by trivial) hno
      have lT := heap_lt HT2.out
      have b0 := cell_heap HT2.out (o := 0) rfl
      have p0 := frozen_heap HT2.out (o := 0)
      have b1 := cell_heap HT2.out (o := 1) rfl
      have p1 := frozen_heap HT2.out (o := 1)
      have b2 := cell_heap HT2.out (o := 2) rfl
      have p2 := frozen_heap HT2.out (o := 2)
      have b3 := cell_heap HT2.out (o := 3) rfl
      have p3 := frozen_heap HT2.out (o := 3)
      have b4 := cell_heap HT2.out (o := 4) rfl
      have p4 := frozen_heap HT2.out (o := 4)
      have Hp := hide hp
      clear hp hno htk hlz
      go_wp2_with fail
      refine bodyPost_ret (findRet3 (R := T) rfl rfl rfl (heap_store (heap_store (heap_store (heap_store (heap_store HT2.out _) _) _) _) _)) rfl ⟨Hp.out, ?_⟩
      exact hk.trans ((((((Below.refl _ _).setCell (p := ⟨T, 0, none⟩) hTw _).setCell (p := ⟨T, 1, none⟩) hTw _).setCell (p := ⟨T, 2, none⟩) hTw _).setCell (p := ⟨T, 3, none⟩) hTw _).setCell (p := ⟨T, 4, none⟩) hTw _)
    case pos =>
    obtain ⟨x, b, off, A', c', hx, rfl, hbl, x0, hxc, hcm', hs⟩ := if_at HC.out hk (i := i) (by show i < L.length; rw [show L.length = m from Hn.out]; exact hlt)
    have hx : L[i]? = some x := hx
    obtain ⟨bs, os, rfl, hbs, hcs⟩ := sl_bytes Hl.out (by omega)
    have s0 := (hk.cell (p := ⟨bs, os + i, none⟩) hbs).trans (hcs i hlt)
    have hbs' := Nat.lt_of_lt_of_le hbs hk.size
    have hz8 := sl_byte8 Hl.out i
    obtain ⟨zz, hzz⟩ : ∃ zz, byteAt l i = zz := ⟨_, rfl⟩
    rw [hzz] at s0 hz8
    obtain ⟨z0, z1⟩ := hz8
    obtain ⟨q, hq⟩ : ∃ q : Nat, zz = (q : Int) := ⟨zz.toNat, by omega⟩
    subst hq
    have hlx : l[i]? = some ((q : Nat) : Int) := by
      rw [← hzz]
      unfold byteAt
      rw [List.getD_eq_getElem?_getD, List.getElem?_eq_getElem (by rw [Hl.out.1]; exact hlt)]
      rfl
    have hzx := zip_get hx hlx
    have hmem := List.mem_of_getElem? hzx
    have hnov : overP (x, (q : Int)) = false := by
      have h := Hov.out
      rw [List.any_eq_false] at h
      simpa using h _ hmem
    obtain ⟨k, hkd⟩ : ∃ k, x.length = k := ⟨_, rfl⟩
    have hqk : q < k := by
      unfold overP at hnov
      simp only [decide_eq_false_iff_not, hkd] at hnov
      omega
    rw [hkd] at x0 hxc hs
    have hi0 : (0 : Int) ≤ (i : Int) := by omega
    have hlt' : (i : Int) < (m : Int) := by omega
    have hwi : IntKind.i64.wrap ((i : Int) + 1) = ((i + 1 : Nat) : Int) := by rw [IntKind.wrap_i64]; omega
    have hqk' : (q : Int) < (k : Int) := by omega
    have hq0 : (0 : Int) ≤ (q : Int) := by omega
    unfold maxLen at hcm'
    have Hzx := hide hzx
    have hxL := hide (show (L.zip l).take (i + 1) = (L.zip l).take i ++ [(x, (q : Int))] by
      obtain ⟨g1, g2⟩ := List.getElem?_eq_some_iff.1 hzx
      rw [List.take_succ_eq_append_getElem g1, g2])
    clear hx hlx hzx hmem hnov hkd hcs hzz
    go_upto_region 7 with (fail)
    refine wp_at (fun V => V.heap[wr.heap.size]? = some (.cells #[.slice A' k c'] 50 (0, 0)) ∧ Kept wr V) ⟨heap_at _ rfl, by go_grown⟩ (fun V hV => ?_)
    obtain ⟨hVB, hkV⟩ := hV
    obtain ⟨bx, hbx⟩ : ∃ bx, wr.heap.size = bx := ⟨_, rfl⟩
    rw [hbx] at hVB
    simp only [hbx]
    have vb0 := cell_heap hVB (o := 0) rfl
    have lvb := heap_lt hVB
    have sv := (hkV.cell (p := ⟨bs, os + i, none⟩) hbs').trans s0
    have lbs := Nat.lt_of_lt_of_le hbs' hkV.size
    have hkwV := hk.trans' hkV
    have HTV := hide (heap_kept hkV HT2.out)
    clear hVB x0 s0 hbs' hk hbx hkV HT2
    obtain ⟨a, b2, off2, X, cx, E, ce, ha, rfl, hbl2, hcells, hdo, q1, q2, q3, q4, q5, q6⟩ := alt_at hs hkwV hqk
    have y8 := hcells 8 _ rfl
    have hep : epsP (x, (q : Int)) = a.eps := by unfold epsP; simp only [Int.toNat_natCast, ha]; rfl
    obtain ⟨e2, he2⟩ : ∃ e2, a.eps.length = e2 := ⟨_, rfl⟩
    rw [he2] at q3 y8 q6
    unfold maxLen at q4
    have Hq6 := hide q6
    have He2 := hide he2
    have Hep := hide hep
    clear hcells ha hdo q5 q6 he2 hep
    go_region_held3 (fun w' => (∀ b o, b < V.heap.size → w'.cell? ⟨b, o, none⟩ = V.cell? ⟨b, o, none⟩) ∧ Below V.heap.size V w') (first | assumption | exact since_start | exact since_keep (by assumption) (Nat.le_refl _) hk | exact since_alloc (by assumption) (Nat.le_refl _)) (fail)
    go_wp2_with fail
    obtain ⟨go, rfl⟩ : ∃ go, go = gk := ⟨_, rfl⟩
    refine wp_at (fun V2 => V2.heap[T]? = some (.cells #[.int .u8 0, .bool false, .int .u8 0, .int .u16 0, .int .u8 0] 59 (0, 0)) ∧ Kept w V2) ⟨HTV.out, hkwV.trans' (by go_grown)⟩ (fun V2 hV2 => ?_)
    obtain ⟨hV2T, hkV2⟩ := hV2
    go_loopg [43] e2 (fun g s43 wr => ∃ k : Nat, k + g = e2 ∧ s43 = .int .i64 k ∧ Kept w wr ∧ wr.heap[T]? = some (.cells #[.int .u8 0, .bool false, .int .u8 0, .int .u16 0, .int .u8 0] 59 (0, 0)) ∧ ∀ x ∈ a.eps.take k, addrS x ≠ ad)
    case atStart => exact ⟨0, by omega, rfl, hkV2, hV2T, by simp⟩
    case round =>
      clear hkV2 hV2T hkwV HTV vb0 lvb sv lbs y8
      obtain ⟨r, hr, rfl, hk, hT3, hno3⟩ := hrel
      have Hr := hide hr
      have HT3 := hide hT3
      have Hno3 := hide hno3
      clear hr hT3 hno3
      by_cases hlr : r < e2
      case neg =>
        have hge : (e2 : Int) ≤ (r : Int) := by omega
        have htk : a.eps.take r = a.eps := List.take_of_length_le (by rw [He2.out]; omega)
        have hno3 := Hno3.out
        rw [htk] at hno3
        have Hn3 := hide hno3
        clear htk hno3
        go_wp2_with fail
        go_roundg (go - 1)
        case measure => have := Hi.out; omega
        case rel =>
          refine ⟨i + 1, by have := Hi.out; omega, rfl, hk, HT3.out, ?_⟩
          rw [hxL.out]
          intro p hp
          rcases List.mem_append.1 hp with hp | hp
          · exact Hno.out p hp
          · obtain rfl : p = (x, (q : Int)) := by simpa using hp
            rw [Hep.out]
            exact Hn3.out
      case pos =>
      obtain ⟨ep, b3, off3, cs, hee, rfl, hb3, hrel', hce⟩ := Hq6.out.at hlr
      obtain ⟨rfl, heok⟩ : cs = ep.cells ∧ ep.ok := hrel'
      have hb3' : b3 < wr.heap.size := Nat.lt_of_lt_of_le hb3 hk.size
      have y := fun (o : Nat) v (hv : ep.cells[o]? = some v) => (hk.cell (p := ⟨b3, off3 + r * 5 + o, none⟩) hb3).trans (hce o v hv)
      have z0' := y 0 _ rfl
      rw [Nat.add_zero] at z0'
      have z1' := y 1 _ rfl
      have z2' := y 2 _ rfl
      have z3' := y 3 _ rfl
      have z4' := y 4 _ rfl
      have hcall := fun w' => addr_any ep w' heok
      obtain ⟨av, hav⟩ : ∃ av, addrS ep = av := ⟨_, rfl⟩
      rw [hav] at hcall
      unfold EpD.cells at hcall
      have hr0 : (0 : Int) ≤ (r : Int) := by omega
      have hlr' : (r : Int) < (e2 : Int) := by omega
      have hwr : IntKind.i64.wrap ((r : Int) + 1) = ((r + 1 : Nat) : Int) := by rw [IntKind.wrap_i64]; omega
      have Hee := hide hee
      have Hav := hide hav
      clear y hce hee hav heok
      by_cases hae : av = ad
      case pos =>
        subst hae
        have hp := HP2.out (by trivial) i r _ ep Hzx.out (by rw [Hep.out]; exact Hee.out) Hav.out
        have Hp := hide hp
        clear hp
        go_upto_region 10 with (fail)
        refine wp_at (fun V => V.heap[wr.heap.size]? = some (.cells #[.int .u8 ep.num, .bool ep.inn, .int .u8 ep.kind, .int .u16 ep.max, .int .u8 ep.ivl] 59 (0, 0)) ∧ Kept wr V) ⟨heap_at _ rfl, by go_grown⟩ (fun V hV => ?_)
        obtain ⟨hVB, hkV⟩ := hV
        obtain ⟨bx, hbx⟩ : ∃ bx, wr.heap.size = bx := ⟨_, rfl⟩
        rw [hbx] at hVB
        simp only [hbx]
        have hTV := heap_kept hkV HT3.out
        have hkwV := hk.trans' hkV
        have v0 := cell_heap hVB (o := 0) rfl
        have v1 := cell_heap hVB (o := 1) rfl
        have v2 := cell_heap hVB (o := 2) rfl
        have v3 := cell_heap hVB (o := 3) rfl
        have v4 := cell_heap hVB (o := 4) rfl
        have lvb := heap_lt hVB
        have HVB := hide hVB
        have HTV := hide hTV
        clear z0' z1' z2' z3' z4' hVB hTV hbx hkV
        go_upto_region 11 with (go_at_call 58; refine (hcall _).mono ?_; rintro e w5 ⟨rfl, hk5⟩)
        have hVB5 := heap_kept hk5 HVB.out
        have hT5 := heap_kept hk5 HTV.out
        clear v0 v1 v2 v3 v4 lvb
        have v0 := cell_heap hVB5 (o := 0) rfl
        have v1 := cell_heap hVB5 (o := 1) rfl
        have v2 := cell_heap hVB5 (o := 2) rfl
        have v3 := cell_heap hVB5 (o := 3) rfl
        have v4 := cell_heap hVB5 (o := 4) rfl
        have lvb := heap_lt hVB5
        have lT := heap_lt hT5
        have b0 := cell_heap hT5 (o := 0) rfl
        have p0 := frozen_heap hT5 (o := 0)
        have b1 := cell_heap hT5 (o := 1) rfl
        have p1 := frozen_heap hT5 (o := 1)
        have b2 := cell_heap hT5 (o := 2) rfl
        have p2 := frozen_heap hT5 (o := 2)
        have b3 := cell_heap hT5 (o := 3) rfl
        have p3 := frozen_heap hT5 (o := 3)
        have b4 := cell_heap hT5 (o := 4) rfl
        have p4 := frozen_heap hT5 (o := 4)
        have HT5 := hide hT5
        have hkw5 := hkwV.trans' hk5
        clear hT5 hVB5 hk5
        go_wp2_with fail
        refine bodyPost_ret (findRet3 (R := T) rfl rfl rfl (heap_store (heap_store (heap_store (heap_store (heap_store HT5.out _) _) _) _) _)) rfl ⟨Hp.out, ?_⟩
        exact hkw5.trans ((((((Below.refl _ _).setCell (p := ⟨T, 0, none⟩) hTw _).setCell (p := ⟨T, 1, none⟩) hTw _).setCell (p := ⟨T, 2, none⟩) hTw _).setCell (p := ⟨T, 3, none⟩) hTw _).setCell (p := ⟨T, 4, none⟩) hTw _)
      case neg =>
        have hae' : (av == ad) = false := by simpa using hae
        clear hae
        go_wp2_with (go_at_call 58; refine (hcall _).mono ?_; rintro e w5 ⟨rfl, hk5⟩)
        go_roundg (gk - 1)
        case measure => have := Hr.out; omega
        case rel =>
          have hka : Kept wr w5 := (show Kept wr _ from (Below.refl _ _).alloc (Nat.le_refl _) (.cells #[.int .u8 ep.num, .bool ep.inn, .int .u8 ep.kind, .int .u16 ep.max, .int .u8 ep.ivl] 59)).trans' hk5
          refine ⟨r + 1, by have := Hr.out; omega, rfl, hk.trans' hka, heap_kept hka HT3.out, ?_⟩
          obtain ⟨g1, g2⟩ := List.getElem?_eq_some_iff.1 Hee.out
          rw [List.take_succ_eq_append_getElem g1, g2]
          intro z hz
          rcases List.mem_append.1 hz with hz | hz
          · exact Hno3.out z hz
          · obtain rfl : z = ep := by simpa using hz
            rw [Hav.out]
            intro h
            rw [h] at hae'
            simp at hae'
end Go.Proofs.YtjgncofhobhjdaaDoor
