/- The law Use, its parts. -/
import Derived.Test.YtjgncofhobhjdaaDoorChecked
import Derived.Deep.RegionHeld3
import Derived.Deep.DrawnRows
import Derived.Deep.DeepCutAuto
import Derived.Deep.LoopGhost
import Derived.Outline
import Derived.Handy
import Derived.OwnWalk
import Derived.BigQuiet
import Derived.Test.YtjgncofhobhjdaaDoorN16
import Derived.Test.YtjgncofhobhjdaaDoorN12
import Derived.Test.YtjgncofhobhjdaaDoorN9
import Derived.Test.YtjgncofhobhjdaaDoorN1
set_option linter.unusedVariables false
set_option linter.unusedSimpArgs false
set_option linter.unusedSectionVars false
/- The law Use as data: the endpoints in use with the numbers of their interfaces; what the law's loop finds. No condition but those named. -/
namespace Go.Proofs.YtjgncofhobhjdaaDoor
open Go.RowKit

def ep0 : EpD := ⟨0, false, 0, 0, 0⟩
/-- the endpoints in use, each with its interface -/
def tagF : Nat → List (List Alt × Int) → List (Nat × EpD)
  | _, [] => []
  | i, p :: l => (epsP p).map (fun e => (i, e)) ++ tagF (i + 1) l
theorem tagF_take : ∀ (l : List (List Alt × Int)) (s i : Nat) (p : List Alt × Int), l[i]? = some p → tagF s (l.take (i + 1)) = tagF s (l.take i) ++ (epsP p).map fun e => (s + i, e)
  | [], s, i, p, h => by simp at h
  | q :: l, s, 0, p, h => by
    have e : q = p := by simpa using h
    subst e
    simp [tagF]
  | q :: l, s, i + 1, p, h => by
    have ih := tagF_take l (s + 1) i p (by simpa using h)
    rw [List.take_succ_cons, List.take_succ_cons]
    show _ ++ tagF (s + 1) (l.take (i + 1)) = (_ ++ tagF (s + 1) (l.take i)) ++ _
    rw [ih, List.append_assoc, show s + 1 + i = s + (i + 1) by omega]
theorem tagF_snd : ∀ (l : List (List Alt × Int)) (s : Nat), (tagF s l).map Prod.snd = l.flatMap epsP
  | [], _ => rfl
  | p :: l, s => by
    show ((epsP p).map (fun e => (s, e)) ++ tagF (s + 1) l).map Prod.snd = _
    rw [List.map_append, tagF_snd l (s + 1), List.map_map, List.flatMap_cons]
    congr 1
    exact List.map_id _
theorem tagF_mem : ∀ (l : List (List Alt × Int)) (s : Nat) (q : Nat × EpD), q ∈ tagF s l → ∃ (i : Nat) (p : List Alt × Int) (k : Nat), l[i]? = some p ∧ q.1 = s + i ∧ (epsP p)[k]? = some q.2
  | [], _, q, h => by cases h
  | p :: l, s, q, h => by
    have h' : q ∈ (epsP p).map (fun e => (s, e)) ++ tagF (s + 1) l := h
    rcases List.mem_append.1 h' with h | h
    · obtain ⟨e, he, rfl⟩ := List.mem_map.1 h
      obtain ⟨k, hk⟩ := List.getElem?_of_mem he
      exact ⟨0, p, k, rfl, rfl, hk⟩
    · obtain ⟨i, p', k, h1, h2, h3⟩ := tagF_mem l (s + 1) q h
      exact ⟨i + 1, p', k, by simpa using h1, by omega, h3⟩
theorem tagF_of : ∀ (l : List (List Alt × Int)) (s i : Nat) (p : List Alt × Int) (e : EpD), l[i]? = some p → e ∈ epsP p → (s + i, e) ∈ tagF s l
  | [], s, i, p, e, h, _ => by simp at h
  | q :: l, s, 0, p, e, h, he => by
    have e' : q = p := by simpa using h
    subst e'
    exact List.mem_append.2 (.inl (List.mem_map.2 ⟨e, he, rfl⟩))
  | q :: l, s, i + 1, p, e, h, he => by
    have ih := tagF_of l (s + 1) i p e (by simpa using h) he
    rw [show s + (i + 1) = s + 1 + i by omega]
    exact List.mem_append.2 (.inr ih)
/-- no address twice -/
def Uniq (t : List (Nat × EpD)) : Prop := (t.map fun p => addrS p.2).Nodup
theorem Uniq.left {a b : List (Nat × EpD)} (h : Uniq (a ++ b)) : Uniq a := by
  unfold Uniq at h
  rw [List.map_append, List.nodup_append] at h
  exact h.1
theorem uniq_new {a : List (Nat × EpD)} {p : Nat × EpD} (h : Uniq (a ++ [p])) : ∀ q ∈ a, addrS q.2 ≠ addrS p.2 := by
  unfold Uniq at h
  rw [List.map_append, List.nodup_append] at h
  intro q hq
  exact h.2.2 _ (List.mem_map_of_mem (f := fun p => addrS p.2) hq) _ (by simp)
theorem uniq_eq : ∀ {t : List (Nat × EpD)} {p q : Nat × EpD}, Uniq t → p ∈ t → q ∈ t → addrS p.2 = addrS q.2 → p = q
  | [], p, q, _, hp, _, _ => by cases hp
  | r :: t, p, q, h, hp, hq, e => by
    unfold Uniq at h
    rw [List.map_cons, List.nodup_cons] at h
    rcases List.mem_cons.1 hp with hp1 | hp1
    · rcases List.mem_cons.1 hq with hq1 | hq1
      · rw [hp1, hq1]
      · exact absurd (show addrS r.2 ∈ t.map fun p => addrS p.2 by rw [← hp1, e]; exact List.mem_map_of_mem (f := fun p => addrS p.2) hq1) h.1
    · rcases List.mem_cons.1 hq with hq1 | hq1
      · exact absurd (show addrS r.2 ∈ t.map fun p => addrS p.2 by rw [← hq1, ← e]; exact List.mem_map_of_mem (f := fun p => addrS p.2) hp1) h.1
      · exact uniq_eq h.2 hp1 hq1 e
theorem tagF_uniq : ∀ (l : List (List Alt × Int)) (s : Nat), (∀ i p, l[i]? = some p → ∀ k e, (epsP p)[k]? = some e → addrS e = nAddr (4 * (s + i) + k) ∧ k < 4 ∧ s + i < 7) → Uniq (tagF s l)
  | [], _, _ => by unfold Uniq; exact List.nodup_nil
  | p :: l, s, h => by
    have ih := tagF_uniq l (s + 1) (fun i q hq k e he => by
      have := h (i + 1) q (by simpa using hq) k e he
      rwa [show s + (i + 1) = s + 1 + i by omega] at this)
    have h0 := h 0 p rfl
    unfold Uniq at ih ⊢
    show (((epsP p).map (fun e => (s, e)) ++ tagF (s + 1) l).map fun p => addrS p.2).Nodup
    rw [List.map_append, List.map_map, List.nodup_append]
    refine ⟨?_, ih, ?_⟩
    · rw [List.Nodup, List.pairwise_iff_getElem]
      intro i j hi hj hij
      rw [List.length_map] at hi hj
      rw [List.getElem_map, List.getElem_map]
      show addrS (epsP p)[i] ≠ addrS (epsP p)[j]
      obtain ⟨a1, a2, a3⟩ := h0 i _ (List.getElem?_eq_getElem hi)
      obtain ⟨b1, b2, b3⟩ := h0 j _ (List.getElem?_eq_getElem hj)
      rw [a1, b1]
      intro e
      have := nAddr_inj (by omega) (by omega) e
      omega
    · intro a ha b hb
      obtain ⟨e, he, rfl⟩ := List.mem_map.1 ha
      obtain ⟨q, hq, rfl⟩ := List.mem_map.1 hb
      obtain ⟨k, hk⟩ := List.getElem?_of_mem he
      obtain ⟨i, p', k', c1, c2, c3⟩ := tagF_mem l (s + 1) q hq
      obtain ⟨a1, a2, a3⟩ := h0 k e hk
      obtain ⟨b1, b2, b3⟩ := h (i + 1) p' (by simpa using c1) k' q.2 c3
      show addrS e ≠ addrS q.2
      rw [a1, b1]
      intro e
      have := nAddr_inj (by omega) (by omega) e
      omega
theorem of_addr {x : PC} (hb : bigS x = false) {i : Nat} {l : List Alt} (h1 : (ofS x).ifs[i]? = some l) {s : Int} {k : Nat} {e : EpD} (h2 : (epsP (l, s))[k]? = some e) : addrS e = nAddr (4 * (0 + i) + k) ∧ k < 4 ∧ 0 + i < 7 := by
  obtain ⟨g1, g2⟩ := big_alt hb
  have h1' : (ofIfs x.ifs)[i]? = some l := h1
  unfold ofIfs at h1'
  rw [List.getElem?_mapIdx] at h1'
  obtain ⟨y, hy, rfl⟩ := Option.map_eq_some_iff.1 h1'
  have hi : i < 7 := by
    have := (List.getElem?_eq_some_iff.1 hy).1
    unfold ifsOr at this
    split at this
    · simp at this; omega
    · omega
  have h2 : (((((altsOr y).mapIdx fun j a => ofAlt i j a)[s.toNat]?).map Alt.eps).getD [])[k]? = some e := h2
  rw [List.getElem?_mapIdx] at h2
  cases hz : (altsOr y)[s.toNat]? with
  | none => rw [hz] at h2; simp at h2
  | some z =>
    rw [hz] at h2
    have h3 : (z.eps.mapIdx fun k e => ofEp i k e)[k]? = some e := h2
    rw [List.getElem?_mapIdx] at h3
    obtain ⟨pe, hpe, rfl⟩ := Option.map_eq_some_iff.1 h3
    have hk4 : z.eps.length ≤ 4 := by
      have hzm := List.mem_of_getElem? hz
      have hym := List.mem_of_getElem? hy
      unfold altsOr at hzm
      unfold ifsOr at hym
      by_cases hy0 : y = []
      · rw [if_pos hy0] at hzm
        have : z = pa0 := by simpa using hzm
        rw [this]; exact Nat.zero_le _
      · rw [if_neg hy0] at hzm
        by_cases hx0 : x.ifs = []
        · rw [if_pos hx0] at hym
          exact absurd (by simpa using hym) hy0
        · rw [if_neg hx0] at hym
          exact ((g2 y hym).2 z hzm).1
    have hk : k < z.eps.length := (List.getElem?_eq_some_iff.1 hpe).1
    refine ⟨?_, by omega, by omega⟩
    rw [Nat.zero_add]
    exact ofEp_addr i k pe (by omega)
theorem of_uniq {x : PC} (hb : bigS x = false) (l : List Int) : Uniq (tagF 0 ((ofS x).ifs.zip l)) := by
  refine tagF_uniq _ 0 fun i p hp k e he => ?_
  rw [List.getElem?_zip_eq_some] at hp
  exact of_addr hb hp.1 (s := p.2) he
theorem epsP_ok {c : Cfg} (hc : checkS c = 0) {p : List Alt × Int} {l : List Int} (hp : p ∈ c.ifs.zip l) : ∀ e ∈ epsP p, okEp e = true := by
  intro e he
  have h1 := (check_of hc).valid.alts p.1 (List.of_mem_zip (a := p.1) (b := p.2) hp).1
  unfold epsP at he
  cases hz : p.1[p.2.toNat]? with
  | none => rw [hz] at he; cases he
  | some a =>
    rw [hz] at he
    have h2 := h1 a (List.mem_of_getElem? hz)
    have he : e ∈ a.eps := he
    unfold altOk at h2
    simp only [Bool.and_eq_true, List.all_eq_true] at h2
    exact h2.2 e he
theorem hit_iff {e : EpD} {ad : Int} (he : okEp e = true) (ha : u8k ad) : addrS e = ad ↔ (e.num = ad % 128 ∧ e.inn = decide (128 ≤ ad)) := by
  unfold okEp at he
  simp only [Bool.and_eq_true, decide_eq_true_eq] at he
  obtain ⟨⟨⟨⟨h1, h2⟩, _⟩, _⟩, _⟩ := he
  obtain ⟨a0, a1⟩ := ha
  unfold addrS
  cases e.inn with
  | true =>
    rw [if_pos rfl]
    constructor
    · intro h
      exact ⟨by omega, by rw [decide_eq_true]; omega⟩
    · intro h
      have := of_decide_eq_true h.2.symm
      omega
  | false =>
    rw [if_neg (by simp)]
    constructor
    · intro h
      exact ⟨by omega, by rw [decide_eq_false]; omega⟩
    · intro h
      have := of_decide_eq_false h.2.symm
      omega
/-- what the law's loop has found -/
def Fnd (ad : Int) (t : List (Nat × EpD)) (F : EpD) (o m : Nat) : Prop :=
  (m = 0 ∧ F = ep0 ∧ o = 0 ∧ ∀ p ∈ t, addrS p.2 ≠ ad) ∨ (m = 1 ∧ (o, F) ∈ t ∧ addrS F = ad)
theorem Fnd.start (ad : Int) : Fnd ad [] ep0 0 0 := .inl ⟨rfl, rfl, rfl, fun _ h => by cases h⟩
theorem Fnd.miss {ad : Int} {t : List (Nat × EpD)} {F : EpD} {o m : Nat} (h : Fnd ad t F o m) {p : Nat × EpD} (hp : addrS p.2 ≠ ad) : Fnd ad (t ++ [p]) F o m := by
  rcases h with ⟨h1, h2, h3, h4⟩ | ⟨h1, h2, h3⟩
  · refine .inl ⟨h1, h2, h3, fun q hq => ?_⟩
    rcases List.mem_append.1 hq with hq | hq
    · exact h4 q hq
    · have : q = p := by simpa using hq
      rw [this]; exact hp
  · exact .inr ⟨h1, List.mem_append.2 (.inl h2), h3⟩
theorem Fnd.hit {ad : Int} {t : List (Nat × EpD)} {F : EpD} {o m : Nat} (h : Fnd ad t F o m) {p : Nat × EpD} (hu : Uniq (t ++ [p])) (hp : addrS p.2 = ad) : Fnd ad (t ++ [p]) p.2 p.1 (m + 1) := by
  rcases h with ⟨h1, _⟩ | ⟨h1, h2, h3⟩
  · exact .inr ⟨by omega, by simp, hp⟩
  · exact absurd (h3.trans hp.symm) (uniq_new hu _ h2)
theorem Fnd.le {ad : Int} {t : List (Nat × EpD)} {F : EpD} {o m : Nat} (h : Fnd ad t F o m) : m ≤ 1 := by
  rcases h with ⟨h, _⟩ | ⟨h, _⟩ <;> omega
theorem ep0_cells : ep0.cells.toArray = #[.int .u8 0, .bool false, .int .u8 0, .int .u16 0, .int .u8 0] := rfl
theorem find_eq {c : Cfg} {l : List Int} {ad : Int} {F : EpD} {o m : Nat} {e : Ending} (h : Fnd ad (tagF 0 (c.ifs.zip l)) F o m) (hu : Uniq (tagF 0 (c.ifs.zip l))) (he : endsE c l = 0) (hp : FindPost c l ad e) :
    e = .returned (.tuple #[.agg #[.int .u8 F.num, .bool F.inn, .int .u8 F.kind, .int .u16 F.max, .int .u8 F.ivl], .int .i64 (o : Int), .int .i64 (if m = 0 then 7 else 0)]) ∧ (m = 0 → F = ep0 ∧ o = 0) := by
  rcases hp with ⟨hn, _⟩ | ⟨_, i, k, p, x, h1, h2, h3, rfl⟩ | ⟨_, h1, rfl⟩
  · exact absurd he hn
  · have hm := tagF_of (c.ifs.zip l) 0 i p x h1 (List.mem_of_getElem? h2)
    rcases h with ⟨g1, g2, g3, g4⟩ | ⟨g1, g2, g3⟩
    · exact absurd h3 (g4 _ hm)
    · have := uniq_eq hu g2 hm (g3.trans h3.symm)
      injection this with q1 q2
      subst q2
      refine ⟨?_, fun h => by omega⟩
      rw [if_neg (by omega), q1, Nat.zero_add]
  · rcases h with ⟨g1, g2, g3, g4⟩ | ⟨g1, g2, g3⟩
    · subst g2 g3
      exact ⟨by rw [if_pos g1]; rfl, fun _ => ⟨rfl, rfl⟩⟩
    · obtain ⟨i, p, k, c1, c2, c3⟩ := tagF_mem _ 0 _ g2
      exact absurd g3 (h1 p (List.mem_of_getElem? c1) F (List.mem_of_getElem? c3))
theorem find_bad {c : Cfg} {l : List Int} {ad : Int} {e : Ending} (he : endsE c l ≠ 0) (hp : FindPost c l ad e) :
    e = .returned (.tuple #[.agg #[.int .u8 0, .bool false, .int .u8 0, .int .u16 0, .int .u8 0], .int .i64 0, .int .i64 (endsE c l)]) := by
  rcases hp with ⟨_, h⟩ | ⟨h, _⟩ | ⟨h, _⟩
  · exact h
  · exact absurd h he
  · exact absurd h he
/-- the law's memory: the box of what was found, the row of all -/
structure US (V : World) (FB : Nat) (ad : Int) (t : List (Nat × EpD)) (F : EpD) (o m : Nat) (v : Value) (X : World) : Prop where
  fb : X.heap[FB]? = some (.cells F.cells.toArray 59 (0, 0))
  own : Own epT 59 (FB + 1) X v (t.map Prod.snd).length (t.map Prod.snd)
  kept : Kept V X
  low : V.heap.size = FB
  fnd : Fnd ad t F o m
section
variable {V X Y : World} {FB : Nat} {ad : Int} {t : List (Nat × EpD)} {F : EpD} {o m : Nat} {v : Value}
theorem US.keep (h : US V FB ad t F o m v X) (hk : Kept X Y) : US V FB ad t F o m v Y := ⟨heap_kept hk h.fb, h.own.kept hk, h.kept.trans' hk, h.low, h.fnd⟩
theorem US.miss (h : US V FB ad t F o m v X) (p : Nat × EpD) {v' : Value} (hg : X.grownBy Y v.ownBlock) (ho : Own epT 59 (FB + 1) Y v' ((t.map Prod.snd).length + 1) (t.map Prod.snd ++ [p.2])) (hp : addrS p.2 ≠ ad) :
    US V FB ad (t ++ [p]) F o m v' Y := by
  have hs := h.kept.size
  refine ⟨heap_grown hg h.fb (fun e => h.own.not_at (Nat.lt_succ_self FB) e.symm), ?_, h.kept.trans ((Below.refl _ _).grown hg hs (fun k hk => by have := (h.own.lt hk).1; have := h.low; omega)), h.low, h.fnd.miss hp⟩
  rw [List.map_append, List.length_append]
  exact ho
theorem US.hit (h : US V FB ad t F o m v X) (p : Nat × EpD) {v' : Value} (hg : X.grownBy Y v.ownBlock) (ho : Own epT 59 (FB + 1) Y v' ((t.map Prod.snd).length + 1) (t.map Prod.snd ++ [p.2])) (hp : addrS p.2 = ad) (hu : Uniq (t ++ [p])) :
    US V FB ad (t ++ [p]) p.2 p.1 (m + 1) v' (Y.setRow FB p.2.cells.toArray) := by
  have hs := h.kept.size
  have hfb := heap_grown hg h.fb (fun e => h.own.not_at (Nat.lt_succ_self FB) e.symm)
  have hl := heap_lt hfb
  have hlow := h.low
  refine ⟨heap_row hfb, ?_, (h.kept.trans ((Below.refl _ _).grown hg hs (fun k hk => by have := (h.own.lt hk).1; have := h.low; omega))).trans (below_row (Below.refl _ _) (by omega) _), h.low, h.fnd.hit hu hp⟩
  rw [List.map_append, List.length_append]
  obtain ⟨h1, cells, ⟨h2, h2'⟩, h3⟩ := ho
  refine ⟨h1, cells, ⟨h2, ?_⟩, fun i x hx => flat_ep (h3 i x hx)⟩
  rcases h2' with h | ⟨g, cap, cur, hv, hg', hh, r⟩
  · exact .inl h
  · exact .inr ⟨g, cap, cur, hv, hg', heap_row_other (by omega) hh, r⟩
end
theorem sameEp_refl (e : EpD) : sameEp e e = true := by simp [sameEp]
end Go.Proofs.YtjgncofhobhjdaaDoor
/- The law Use: the endpoints of a setting. Printed by gen_ub.py. -/
namespace Go.Proofs.YtjgncofhobhjdaaDoor
open Go.RowKit
attribute [local go_sem ↓] Go.wp_at_zero Go.wp_at_succ

theorem takeTag {es : List EpD} {i k : Nat} {e : EpD} {pre : List (Nat × EpD)} (h : es[k]? = some e) : pre ++ (es.take (k + 1)).map (fun e => (i, e)) = (pre ++ (es.take k).map (fun e => (i, e))) ++ [(i, e)] := by
  obtain ⟨h1, h2⟩ := List.getElem?_eq_some_iff.1 h
  rw [List.take_succ_eq_append_getElem h1, h2, List.map_append, List.append_assoc]
  rfl
theorem uniq_take {es : List EpD} {i k : Nat} {pre : List (Nat × EpD)} (h : Uniq (pre ++ es.map (fun e => (i, e)))) : Uniq (pre ++ (es.take k).map (fun e => (i, e))) := by
  have : pre ++ es.map (fun e => (i, e)) = (pre ++ (es.take k).map (fun e => (i, e))) ++ (es.drop k).map (fun e => (i, e)) := by
    conv => lhs; rw [← List.take_append_drop k es, List.map_append]
    rw [List.append_assoc]
  rw [this] at h
  exact h.left
noncomputable def code24u : Code := (Tryd.f10.body.bind (findR 24)).getD .skip
set_option maxRecDepth 1000000 in
set_option maxHeartbeats 16000000 in
theorem use_in {u0 u1 u3 u4 u5 u6 u7 u8 u9 u11 u17 u18 u19 u20 u21 u22 u23 u24 u25 u26 u27 u28 u29 u30 u31 u32 u33 u34 u35 u36 u37 u38 u39 u40 u41 u42 u43 u44 u45 u46 u47 u48 u49 u50 u51 u52 u53 u54 u55 u56 u57 u58 u59 u60 u61 u62 u63 u64 u65 u66 u67 u68 u69 u70 u71 u72 u73 u74 u75 u76 u77 u78 u79 u80 u81 u82 u83 u84 u85 u86 u87 u88 u89 u90 u91 u92 u93 u94 u95 u96 u97 u98 u99 u100 u101 u102 u103 u104 u105 u106 u107 u108 u109 u110 u111 u112 u113 u114 u115 u116 u117 u118 u119 u120 u121 u122 u123 u124 u125 u126 u127 u128 u129 u130 u131 u132 u133 u134 u135 u136 u137 u138 u139 u140 u141 u142 u143 u144 u145 u146 u147 u148 u149 u150 u151 u152 u153 u154 u155 u156 u157 u158 u159 u160 u161 u162 u163 u164 u165 u166 u167 u168 u169 u170 u171 u172 u173 u174 u175 u176 u177 u178 u179 u180 u181 u182 u183 u184 u185 u186 u187 u188 u189 u190 u191 u192 u193 u194 u195 u196 u197 u198 u199 u200 u201 u202 u203 u204 u205 u206 u207 u208 u209 u210 u211 u212 u213 u214 u215 u216 u217 u218 u219 u220 u221 u222 u223 u224 u225 u226 u227 u228 u229 u230 u231 u232 u233 u234 u235 u236 u237 u238 u239 u240 : Value} {FB i o mm ne ce : Nat} {ad : Int} {E : Option Addr} {es : List EpD} {pre : List (Nat × EpD)} {F : EpD} {v : Value} {V wr : World}
    (hus : US V FB ad pre F o mm v wr) (hq : Sl epT V (low V.heap.size) E ne es) (hlen : pre.length + ne ≤ 100000) (hok : ∀ e ∈ es, okEp e = true) (hce : ne ≤ ce) (hce2 : ce ≤ maxLen) (hu : Uniq (pre ++ es.map (fun e => (i, e)))) (had : u8k ad)
    (Q : Exit → Act → World → Prop) (K : Act → World → Prop) (hK : ∀ a w', Code.wp Tryd.prog (restC code24u) Q a w' → K a w')
    (hQ : ∀ (s17 s96 s97 s98 s99 s100 s101 s102 s103 s104 s105 s106 s107 s108 s109 s110 s111 s112 s113 s114 s115 s116 s117 s118 s119 s120 s121 s122 s123 s124 s125 s126 s127 s128 s129 s130 s131 s132 s133 : Value) (F' : EpD) (o' m' : Nat) (v' : Value) (w' : World), US V FB ad (pre ++ es.map (fun e => (i, e))) F' o' m' v' w' → Q .normal ⟨#[u0, u1, .int .u8 ad, u3, u4, u5, u6, u7, u8, u9, v', u11, .pointer (some ⟨FB, 0, none⟩), (.int .i64 ((o' : Nat) : Int)), (.int .i64 ((m' : Nat) : Int)), .int .i64 i, .slice E ne ce, s17, u18, u19, u20, u21, u22, u23, u24, u25, u26, u27, u28, u29, u30, u31, u32, u33, u34, u35, u36, u37, u38, u39, u40, u41, u42, u43, u44, u45, u46, u47, u48, u49, u50, u51, u52, u53, u54, u55, u56, u57, u58, u59, u60, u61, u62, u63, u64, u65, u66, u67, u68, u69, u70, u71, u72, u73, u74, u75, u76, u77, u78, u79, u80, u81, u82, u83, u84, u85, u86, u87, u88, u89, u90, u91, u92, u93, u94, u95, s96, s97, s98, s99, s100, s101, s102, s103, s104, s105, s106, s107, s108, s109, s110, s111, s112, s113, s114, s115, s116, s117, s118, s119, s120, s121, s122, s123, s124, s125, s126, s127, s128, s129, s130, s131, s132, s133, u134, u135, u136, u137, u138, u139, u140, u141, u142, u143, u144, u145, u146, u147, u148, u149, u150, u151, u152, u153, u154, u155, u156, u157, u158, u159, u160, u161, u162, u163, u164, u165, u166, u167, u168, u169, u170, u171, u172, u173, u174, u175, u176, u177, u178, u179, u180, u181, u182, u183, u184, u185, u186, u187, u188, u189, u190, u191, u192, u193, u194, u195, u196, u197, u198, u199, u200, u201, u202, u203, u204, u205, u206, u207, u208, u209, u210, u211, u212, u213, u214, u215, u216, u217, u218, u219, u220, u221, u222, u223, u224, u225, u226, u227, u228, u229, u230, u231, u232, u233, u234, u235, u236, u237, u238, u239, u240], []⟩ w') :
    Code.wp Tryd.prog (headC code24u) (Exit.then K Q) ⟨#[u0, u1, .int .u8 ad, u3, u4, u5, u6, u7, u8, u9, v, u11, .pointer (some ⟨FB, 0, none⟩), .int .i64 o, .int .i64 mm, .int .i64 i, .slice E ne ce, u17, u18, u19, u20, u21, u22, u23, u24, u25, u26, u27, u28, u29, u30, u31, u32, u33, u34, u35, u36, u37, u38, u39, u40, u41, u42, u43, u44, u45, u46, u47, u48, u49, u50, u51, u52, u53, u54, u55, u56, u57, u58, u59, u60, u61, u62, u63, u64, u65, u66, u67, u68, u69, u70, u71, u72, u73, u74, u75, u76, u77, u78, u79, u80, u81, u82, u83, u84, u85, u86, u87, u88, u89, u90, u91, u92, u93, u94, u95, u96, u97, u98, u99, u100, u101, u102, u103, u104, u105, u106, u107, u108, u109, u110, u111, u112, u113, u114, u115, u116, u117, u118, u119, u120, u121, u122, u123, u124, u125, u126, u127, u128, u129, u130, u131, u132, u133, u134, u135, u136, u137, u138, u139, u140, u141, u142, u143, u144, u145, u146, u147, u148, u149, u150, u151, u152, u153, u154, u155, u156, u157, u158, u159, u160, u161, u162, u163, u164, u165, u166, u167, u168, u169, u170, u171, u172, u173, u174, u175, u176, u177, u178, u179, u180, u181, u182, u183, u184, u185, u186, u187, u188, u189, u190, u191, u192, u193, u194, u195, u196, u197, u198, u199, u200, u201, u202, u203, u204, u205, u206, u207, u208, u209, u210, u211, u212, u213, u214, u215, u216, u217, u218, u219, u220, u221, u222, u223, u224, u225, u226, u227, u228, u229, u230, u231, u232, u233, u234, u235, u236, u237, u238, u239, u240], []⟩ wr := by
  obtain ⟨iE, hiE, hE0, hE1, hE2⟩ := info_parts infoEp
  unfold maxLen at hce2
  have a0 := had.1
  have a1 := had.2
  have HQ := hide hQ
  have Hq := hide hq
  have Hok := hide hok
  have Hne := hide hq.1
  have Hu := hide hu
  have Had := hide had
  have HUS0 := hide hus
  have ha2 : ad.tmod 128 = ad % 128 := Int.tmod_eq_emod_of_nonneg a0
  clear hQ hq hok hu had hus
  conv => arg 2; whnf
  conv at hK => enter [a, w', 1, 2]; whnf
  go_wp2_with fail
  go_loopg [10, 13, 14, 17] ne (fun g s10 s13 s14 s17 wx => ∃ (k : Nat) (F' : EpD) (o' m' : Nat), k + g = ne ∧ s17 = .int .i64 k ∧ s13 = .int .i64 ((o' : Nat) : Int) ∧ s14 = .int .i64 ((m' : Nat) : Int) ∧ US V FB ad (pre ++ (es.take k).map (fun e => (i, e))) F' o' m' s10 wx)
  case atStart => exact ⟨0, F, o, mm, by omega, rfl, rfl, rfl, by simpa using HUS0.out⟩
  case round =>
    clear HUS0
    obtain ⟨k, F2, o2, m2, hk, rfl, rfl, rfl, hus⟩ := hrel
    have Hk := hide hk
    obtain ⟨na, hnv⟩ : ∃ na, ((pre ++ (es.take k).map (fun e => (i, e))).map Prod.snd).length = na := ⟨_, rfl⟩
    have hown0 := hus.own
    rw [hnv] at hown0
    obtain ⟨A2, c2, rfl, hc21, hc22⟩ := hown0.isSlice
    unfold maxLen at hc22
    have HUS := hide hus
    have Hnv := hide hnv
    clear hk hus hnv hown0
    by_cases hlk : k < ne
    case neg =>
      have hge : (ne : Int) ≤ (k : Int) := by omega
      have htk : es.take k = es := List.take_of_length_le (by rw [Hne.out]; omega)
      have Hus := hide (htk ▸ HUS.out)
      clear htk HUS
      go_wp2_with fail
      exact HQ.out _ _ _ _ _ _ _ _ _ _ _ _ _ _ _ _ _ _ _ _ _ _ _ _ _ _ _ _ _ _ _ _ _ _ _ _ _ _ _ _ _ _ _ _  Hus.out
    case pos =>
    obtain ⟨ep, be, offe, cse, hee, rfl, hbe, hrel', hce'⟩ := Hq.out.at hlk
    obtain ⟨rfl, heok⟩ : cse = ep.cells ∧ ep.ok := hrel'
    have hoke := Hok.out ep (List.mem_of_getElem? hee)
    have h8 := takeTag (i := i) (pre := pre) hee
    have hu9 := uniq_take (k := k + 1) Hu.out
    rw [h8] at hu9
    have hit := hit_iff hoke Had.out
    obtain ⟨pk, hpk⟩ : ∃ pk, pre ++ (es.take k).map (fun e => (i, e)) = pk := ⟨_, rfl⟩
    rw [hpk] at HUS h8 hu9
    have hpl : (pk.map Prod.snd).length ≤ 100000 - 1 := by
      rw [← hpk, List.length_map, List.length_append, List.length_map, List.length_take]
      omega
    obtain ⟨al, hal⟩ : ∃ al, pk.map Prod.snd = al := ⟨_, rfl⟩
    have hna : al.length = na := by rw [← hal, ← hpk]; exact Hnv.out
    have hown := HUS.out.own
    rw [hal, hna] at hown
    rw [hal, hna] at hpl
    have hbw : be < wr.heap.size := Nat.lt_of_lt_of_le hbe HUS.out.kept.size
    have y := fun (oo : Nat) v (hv : ep.cells[oo]? = some v) => (HUS.out.kept.cell (p := ⟨be, offe + k * 5 + oo, none⟩) hbe).trans (hce' oo v hv)
    have z0 := y 0 _ rfl
    rw [Nat.add_zero] at z0
    have z1 := y 1 _ rfl
    have z2 := y 2 _ rfl
    have z3 := y 3 _ rfl
    have z4 := y 4 _ rfl
    have hk0 : (0 : Int) ≤ (k : Int) := by omega
    have hkm : (k : Int) < (ne : Int) := by omega
    have hwk : IntKind.i64.wrap ((k : Int) + 1) = ((k + 1 : Nat) : Int) := by rw [IntKind.wrap_i64]; omega
    have H8 := hide h8
    have Hu9 := hide hu9
    have Hit := hide hit
    have Hown := hide hown
    have Hal := hide (And.intro hal hna)
    have hFBr : FB + 1 ≤ wr.heap.size := heap_lt HUS.out.fb
    have Heok := hide heok
    clear y hee h8 hu9 hit hown hal hna hoke hpk heok hce'
    go_upto_region 28 with (at_builtin; refine wpList_append_el (T := epT) rfl (.tmp 102) (.tmp 107) 54 rfl (FB + 1) 59 iE _ 8 Tryd.underlying54 hiE hE0 hE1 hE2 rfl (by exact (by decide : 0 < 5)) _ na al (by rfl) (Hown.out.alloc _) wr.heap.size _ _ ep (by rfl) (heap_at _ rfl) (by exact ⟨rfl, Heok.out⟩) (by simp [Value.oneCell']) (by unfold maxLen; omega) (by omega) (by simp; omega) ?_; intro g9 cap9 w9 hown9 hg9 hb9 hat9 hlt9)
    have hown9' : Own epT 59 (FB + 1) w9 (.slice (some ⟨g9, 0, none⟩) (na + 1) cap9) ((pk.map Prod.snd).length + 1) (pk.map Prod.snd ++ [(i, ep).2]) := by rw [Hal.out.1, Hal.out.2]; exact hown9
    have hus0 := HUS.out.keep ((Below.refl _ _).alloc (Nat.le_refl _) (.cells ep.cells.toArray 59))
    have hk9 : Kept V w9 := hus0.kept.trans ((Below.refl _ _).grown hg9 hus0.kept.size (fun j hj => by have := (Hown.out.lt hj).1; have := hus0.low; omega))
    have hx := fun (p : Addr) (hp : p.block < V.heap.size) (u : Value) (hw : wr.cell? p = some u) => (hk9.cell (p := p) hp).trans ((HUS.out.kept.cell (p := p) hp).symm.trans hw)
    have x0 := hx _ hbe _ z0
    have x1 := hx _ hbe _ z1
    have x2 := hx _ hbe _ z2
    have x3 := hx _ hbe _ z3
    have x4 := hx _ hbe _ z4
    have hbw9 : be < w9.heap.size := Nat.lt_of_lt_of_le hbe hk9.size
    have hfb9 := heap_grown hg9 hus0.fb (fun e => Hown.out.not_at (Nat.lt_succ_self FB) e.symm)
    have Hus0 := hide hus0
    have Hown9 := hide hown9'
    have Hg9 := hide hg9
    have Hfb9 := hide hfb9
    have Hna9 : Hid (na + 1 ≤ cap9) := hide (by obtain ⟨_, _, e, h1, _⟩ := hown9.isSlice; injection e with _ _ e3; omega)
    clear hx hown9 hown9' hus0 hk9 hfb9 z0 z1 z2 z3 z4 hat9 hb9 hg9 hbw hFBr Hown
    by_cases hn : ep.num = ad % 128
    case neg =>
      have hq1 : (ep.num == ad % 128) = false := by simpa using hn
      have Hmiss := hide (show addrS (i, ep).2 ≠ ad from fun e => hn (Hit.out.1 e).1)
      clear Hit
      go_wp2_with fail
      go_roundg (gk - 1)
      case measure => have := Hk.out; omega
      case rel => exact ⟨k + 1, F2, o2, m2, by have := Hk.out; omega, by first | rfl | go_num, rfl, rfl, by rw [H8.out]; exact Hus0.out.miss (i, ep) Hg9.out Hown9.out Hmiss.out⟩
    case pos =>
    have hq1 : (ep.num == ad % 128) = true := by simpa using hn
    obtain ⟨inn, hinn⟩ : ∃ inn, ep.inn = inn := ⟨_, rfl⟩
    obtain ⟨gg, hgg⟩ : ∃ gg, decide (128 ≤ ad) = gg := ⟨_, rfl⟩
    have hgg2 : decide (ad ≥ 128) = gg := hgg
    by_cases hie : inn = gg
    case neg =>
      have Hmiss := hide (show addrS (i, ep).2 ≠ ad from fun e => hie (by rw [← hinn, ← hgg]; exact (Hit.out.1 e).2))
      have hq2 : (inn == gg) = false := by simpa using hie
      rw [hinn] at x1
      clear Hit hinn hn hie
      go_wp2_with fail
      go_roundg (gk - 1)
      case measure => have := Hk.out; omega
      case rel => exact ⟨k + 1, F2, o2, m2, by have := Hk.out; omega, by first | rfl | go_num, rfl, rfl, by rw [H8.out]; exact Hus0.out.miss (i, ep) Hg9.out Hown9.out Hmiss.out⟩
    case pos =>
    have Hhit := hide (show addrS (i, ep).2 = ad from Hit.out.2 ⟨hn, by rw [hinn, hgg]; exact hie⟩)
    have hq2 : (inn == gg) = true := by simpa using hie
    rw [hinn] at x1
    have hm2 := HUS.out.fnd.le
    have hwm : IntKind.i64.wrap ((m2 : Int) + 1) = ((m2 + 1 : Nat) : Int) := by rw [IntKind.wrap_i64]; omega
    have Hinn := hide hinn
    clear Hit hinn hn hie
    go_wp2_with (refine wpList_store_row rfl 59 (.tmp 12) (.tmp 130) rfl FB #[.int .u8 ep.num, .bool inn, .int .u8 ep.kind, .int .u16 ep.max, .int .u8 ep.ivl] (by rfl) (by rfl) 59 _ Hfb9.out (by kernel_rfl) (by rfl) (by simp [Value.oneCell']) ?_)
    have Hfin := Hus0.out.hit (i, ep) Hg9.out Hown9.out Hhit.out Hu9.out
    have hcs : ((i, ep) : Nat × EpD).2.cells.toArray = #[.int .u8 ep.num, .bool inn, .int .u8 ep.kind, .int .u16 ep.max, .int .u8 ep.ivl] := by rw [← Hinn.out]; rfl
    rw [hcs] at Hfin
    have HFin := hide Hfin
    clear Hfin hcs
    go_roundg (gk - 1)
    case measure => have := Hk.out; omega
    case rel => exact ⟨k + 1, ep, i, m2 + 1, by have := Hk.out; omega, by first | rfl | go_num, rfl, by first | rfl | go_num, by rw [H8.out]; exact HFin.out⟩
end Go.Proofs.YtjgncofhobhjdaaDoor
