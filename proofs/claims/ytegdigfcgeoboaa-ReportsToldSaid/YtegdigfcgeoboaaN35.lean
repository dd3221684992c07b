/- The map of plain data: memory, its end. -/
import Derived.Test.YtegdigfcgeoboaaChecked
import Derived.Deep.RegionHeld3
import Derived.Deep.DrawnRows
import Derived.Deep.DeepCutAuto
import Derived.Deep.LoopGhost
import Derived.Outline
import Derived.Handy
import Derived.OwnWalk
import Derived.Test.YtegdigfcgeoboaaMaK
import Derived.Test.YtegdigfcgeoboaaN33
import Derived.BigQuiet
import Derived.Deep.DeepMust
set_option linter.unusedVariables false
set_option linter.unusedSimpArgs false
set_option linter.unusedSectionVars false
/- The law's D.Map in memory: its map, the open collections, a field that is made. No condition. -/
namespace Go.Proofs.Ytegdigfcgeoboaa
open Go.RowKit Go.Maps

def i64D : Ty Int := Ty.flat 1 (fun n => [.int .i64 n]) (fun _ => True) (fun _ => rfl)
theorem flat_i64D : Flat i64D := fun {_ _ _ _ _ _} h => h
def zeroD : Obj := .cells #[.slice none 0 0, .slice none 0 0, .bool false] 40 (0, 0)
/-- where a row of the call's own lies, told by its block -/
theorem Own.sl_at {α : Type} {t : Ty α} {e : TypeId} {w : World} {base n m c : Nat} {A : Option Addr} {xs : List α} (h : Own t e base w (.slice A m c) n xs) (F : Nat → Prop) (hF : ∀ g, (Value.slice A m c).ownBlock = some g → F g)
    (hrel : ∀ x cs, t.rel w (apart w (.slice A m c)) x cs → t.rel w F x cs) : Sl t w F A n xs := by
  obtain ⟨h1, cells, h2, h3⟩ := h
  refine ⟨h1, fun i x hx => ?_⟩
  have hi : i < n := by rw [← h1]; exact (List.getElem?_eq_some_iff.1 hx).1
  rcases h2.2 with ⟨_, h0⟩ | ⟨g, cap, cur, hv, hg, hh, _, _, _, htk⟩
  · omega
  · injection hv with hA _ _
    have hr := h3 i x hx
    refine ⟨g, 0, _, hA, hF g (by rw [hA]; rfl), hrel _ _ hr, fun j u hu => ?_⟩
    have hj : j < t.size := by rw [← t.len hr]; exact (List.getElem?_eq_some_iff.1 hu).1
    rw [List.getElem?_take_of_lt hj, List.getElem?_drop] at hu
    rw [← h2.cells (g := g) (by rw [hA]; rfl) _ _ hu, Addr.add_mid]; simp
/-- the blocks that the function writes -/
def BusyD (RB MB FB : Nat) (vo vf vc : Value) : Nat → Prop := fun b => b ≠ RB ∧ b ≠ MB ∧ b ≠ FB ∧ vo.ownBlock ≠ some b ∧ vf.ownBlock ≠ some b ∧ vc.ownBlock ≠ some b
structure MD (w W : World) (DB RB MB FB : Nat) (nb nm : Bool) (A : Option Addr) (n cap : Nat) (vo vf vc : Value) (ol : List Int) (fl : List Fd) (cl : List Co) : Prop where
  kept : Kept w W
  bd : W.heap[DB]? = some (.cells #[.bool nb, .slice A n cap] 52 (0, 0))
  br : W.heap[RB]? = some zeroD
  bm : W.heap[MB]? = some (.cells #[vf, vc, .bool nm] 40 (0, 0))
  op : Own i64D 3 w.heap.size W vo ol.length ol
  fs : Own (fdM.on (BusyD RB MB FB vo vf vc)) 59 w.heap.size W vf fl.length fl
  cs : Own coT 68 w.heap.size W vc cl.length cl
  low : w.heap.size ≤ DB ∧ w.heap.size ≤ RB ∧ w.heap.size ≤ MB ∧ DB ≠ MB ∧ RB ≠ MB
  nf : vf.ownBlock ≠ some FB
/-- a field that is made -/
structure FX (w W : World) (FB : Nat) (U : Option Addr) (c : Nat) (g : Fd) : Prop where
  box : W.heap[FB]? = some (.cells (g.cellsAt (.slice U g.usages.length c)) 59 (0, 0))
  us : Own u32T 27 w.heap.size W (.slice U g.usages.length c) g.usages.length g.usages
  lo : w.heap.size ≤ FB
section
variable {w W W' : World} {DB RB MB n cap FB c : Nat} {nb nm : Bool} {A U : Option Addr} {vo vf vc v' : Value} {ol : List Int} {fl : List Fd} {cl : List Co} {g : Fd}
theorem own_ne_or {α : Type} {t : Ty α} {e e' : TypeId} {w : World} {base n BB : Nat} {v : Value} {xs : List α} {cs : Array Value} {fr : Nat × Nat} (h : Own t e base w v n xs) (hB : w.heap[BB]? = some (.cells cs e' fr)) (hne : e ≠ e') : v.ownBlock = none ∨ v.ownBlock ≠ some BB := .inr (own_type_ne h hB hne)
theorem MD.keep (h : MD w W DB RB MB FB nb nm A n cap vo vf vc ol fl cl) (hk : Kept W W') : MD w W' DB RB MB FB nb nm A n cap vo vf vc ol fl cl :=
  ⟨h.kept.trans' hk, heap_kept hk h.bd, heap_kept hk h.br, heap_kept hk h.bm, h.op.kept hk, h.fs.kept hk, h.cs.kept hk, h.low, h.nf⟩
theorem FX.keep (h : FX w W FB U c g) (hk : Kept W W') : FX w W' FB U c g := ⟨heap_kept hk h.box, h.us.kept hk, h.lo⟩
/-- a row of another type has grown -/
theorem FX.grown (h : FX w W FB U c g) {α : Type} {t : Ty α} {e : TypeId} {base m : Nat} {v : Value} {xs : List α} (ho : Own t e base W v m xs) (h1 : e ≠ 59) (h2 : e ≠ 27) (hg : W.grownBy W' v.ownBlock) : FX w W' FB U c g :=
  ⟨heap_grown hg h.box (fun e => own_type_ne ho h.box h1 e.symm), h.us.grownF flat_u32 hg (rows_apart h.us ho (Ne.symm h2)), h.lo⟩
/-- a cell of another box is written -/
theorem FX.other (h : FX w W FB U c g) {BB : Nat} {cs : Array Value} {e : TypeId} {fr : Nat × Nat} (hB : W.heap[BB]? = some (.cells cs e fr)) (h1 : e ≠ 59) (h2 : e ≠ 27) (i : Nat) (u : Value) : FX w (W.setCell ⟨BB, i, none⟩ u) FB U c g := by
  have hg : W.grownBy (W.setCell ⟨BB, i, none⟩ u) (some BB) := grown_at grown_self i u
  refine ⟨heap_grown hg h.box (fun e2 => ?_), h.us.grownF flat_u32 hg (own_ne_or h.us hB (Ne.symm h2)), h.lo⟩
  injection e2 with e2
  subst e2
  have h3 := h.box
  rw [hB] at h3
  injection h3 with h3
  injection h3 with _ h4 _
  exact h1 h4
/-- a cell of the field is written -/
theorem FX.set (h : FX w W FB U c g) (i : Nat) (u : Value) {g' : Fd} (hu : g'.usages = g.usages) (hc : (g.cellsAt (.slice U g.usages.length c)).setIfInBounds i u = g'.cellsAt (.slice U g.usages.length c)) : FX w (W.setCell ⟨FB, i, none⟩ u) FB U c g' := by
  have hg : W.grownBy (W.setCell ⟨FB, i, none⟩ u) (some FB) := grown_at grown_self i u
  refine ⟨by rw [hu, ← hc]; exact heap_store h.box u, by rw [hu]; exact h.us.grownF flat_u32 hg (own_ne_or h.us h.box (by decide)), h.lo⟩
/-- the next field's box -/
theorem MD.fresh (h : MD w W DB RB MB FB nb nm A n cap vo vf vc ol fl cl) {FB' : Nat} (hF : W.heap.size ≤ FB') : MD w W DB RB MB FB' nb nm A n cap vo vf vc ol fl cl :=
  ⟨h.kept, h.bd, h.br, h.bm, h.op, h.fs.widen (fun b hb ⟨b9, b1, _, b2, b3, b4⟩ => ⟨b9, b1, by omega, b2, b3, b4⟩), h.cs, h.low, fun e => by have := (h.fs.lt e).2; omega⟩
/-- a cell of the field is written: the map stays -/
theorem MD.box (h : MD w W DB RB MB FB nb nm A n cap vo vf vc ol fl cl) (hF : FX w W FB U c g) (i : Nat) (u : Value) : MD w (W.setCell ⟨FB, i, none⟩ u) DB RB MB FB nb nm A n cap vo vf vc ol fl cl := by
  have hg : W.grownBy (W.setCell ⟨FB, i, none⟩ u) (some FB) := grown_at grown_self i u
  have hne : ∀ {B : Nat} {cs : Array Value} {e : TypeId} {fr : Nat × Nat}, W.heap[B]? = some (.cells cs e fr) → e ≠ 59 → some B ≠ some FB := fun hB he e2 => by
    injection e2 with e2
    subst e2
    rw [hF.box] at hB
    injection hB with hB
    injection hB with _ h4 _
    exact he h4.symm
  exact ⟨h.kept.trans ((Below.refl _ _).setCell (p := ⟨FB, i, none⟩) hF.lo _), heap_grown hg h.bd (hne h.bd (by decide)), heap_grown hg h.br (hne h.br (by decide)), heap_grown hg h.bm (hne h.bm (by decide)), h.op.grownF flat_i64D hg (own_ne_or h.op hF.box (by decide)), h.fs.grownX hg (fun b e hx => hx.2.2.1 (by injection e)) (.inr h.nf), h.cs.grownF flat_co hg (own_ne_or h.cs hF.box (by decide)), h.low, h.nf⟩
theorem MD.opTo (h : MD w W DB RB MB FB nb nm A n cap vo vf vc ol fl cl) {l : List Int} (hg : W.grownBy W' vo.ownBlock) (hb : Below w.heap.size W W') (ho : Own i64D 3 w.heap.size W' v' l.length l) (hat : v'.ownBlock = none ∨ v'.ownBlock = vo.ownBlock ∨ v'.ownBlock = some W.heap.size) : MD w W' DB RB MB FB nb nm A n cap v' vf vc l fl cl := by
  have hX : ∀ b, b < W.heap.size → BusyD RB MB FB vo vf vc b → BusyD RB MB FB v' vf vc b := fun b hb ⟨b9, b1, b0, b2, b3, b4⟩ => ⟨b9, b1, b0, own_new hat hb b2, b3, b4⟩
  exact ⟨h.kept.trans hb, heap_grown hg h.bd (fun e => own_type_ne h.op h.bd (by decide) e.symm), heap_grown hg h.br (fun e => own_type_ne h.op h.br (by decide) e.symm), heap_grown hg h.bm (fun e => own_type_ne h.op h.bm (by decide) e.symm), ho, h.fs.step hg (fun b e hx => hx.2.2.2.1 e.symm) (rows_apart h.fs h.op (by decide)) hX, h.cs.grownF flat_co hg (rows_apart h.cs h.op (by decide)), h.low, h.nf⟩
/-- the map's cells are written: nothing else changes -/
theorem MD.cell (h : MD w W DB RB MB FB nb nm A n cap vo vf vc ol fl cl) (i : Nat) (u : Value) {vf' vc' : Value} {nm' : Bool} (hc : (#[vf, vc, .bool nm] : Array Value).setIfInBounds i u = #[vf', vc', .bool nm'])
    (hf : Own (fdM.on (BusyD RB MB FB vo vf' vc')) 59 w.heap.size W vf' fl.length fl) (hcs : Own coT 68 w.heap.size W vc' cl.length cl) (hnf : vf'.ownBlock ≠ some FB) : MD w (W.setCell ⟨MB, i, none⟩ u) DB RB MB FB nb nm' A n cap vo vf' vc' ol fl cl := by
  have hg : W.grownBy (W.setCell ⟨MB, i, none⟩ u) (some MB) := grown_at grown_self i u
  obtain ⟨l1, l2, l3, l4, l5⟩ := h.low
  exact ⟨h.kept.trans ((Below.refl _ _).setCell (p := ⟨MB, i, none⟩) l3 _), heap_grown hg h.bd (fun e => l4 (by injection e)), heap_grown hg h.br (fun e => l5 (by injection e)), by rw [← hc]; exact heap_store h.bm u, h.op.grownF flat_i64D hg (own_ne_or h.op h.bm (by decide)), hf.grownX hg (fun b e hx => hx.2.1 (by injection e)) (own_ne_or hf h.bm (by decide)), hcs.grownF flat_co hg (own_ne_or hcs h.bm (by decide)), h.low, hnf⟩
theorem MD.csTo (h : MD w W DB RB MB FB nb nm A n cap vo vf vc ol fl cl) {l : List Co} (hg : W.grownBy W' vc.ownBlock) (hb : Below w.heap.size W W') (ho : Own coT 68 w.heap.size W' v' l.length l) (hat : v'.ownBlock = none ∨ v'.ownBlock = vc.ownBlock ∨ v'.ownBlock = some W.heap.size) : MD w (W'.setCell ⟨MB, 1, none⟩ v') DB RB MB FB nb nm A n cap vo vf v' ol fl l := by
  have hX : ∀ b, b < W.heap.size → BusyD RB MB FB vo vf vc b → BusyD RB MB FB vo vf v' b := fun b hb ⟨b9, b1, b0, b2, b3, b4⟩ => ⟨b9, b1, b0, b2, b3, own_new hat hb b4⟩
  obtain ⟨l1, l2, l3, l4, l5⟩ := h.low
  have hg2 : W'.grownBy (W'.setCell ⟨MB, 1, none⟩ v') (some MB) := grown_at grown_self 1 v'
  have hbm : W'.heap[MB]? = some (.cells #[vf, vc, .bool nm] 40 (0, 0)) := heap_grown hg h.bm (fun e => own_type_ne h.cs h.bm (by decide) e.symm)
  have hop := h.op.grownF flat_i64D hg (rows_apart h.op h.cs (by decide))
  have hfs := h.fs.step hg (X' := BusyD RB MB FB vo vf v') (fun b e hx => hx.2.2.2.2.2 e.symm) (rows_apart h.fs h.cs (by decide)) hX
  exact ⟨(h.kept.trans hb).trans ((Below.refl _ _).setCell (p := ⟨MB, 1, none⟩) l3 _), heap_grown hg2 (heap_grown hg h.bd (fun e => own_type_ne h.cs h.bd (by decide) e.symm)) (fun e => l4 (by injection e)), heap_grown hg2 (heap_grown hg h.br (fun e => own_type_ne h.cs h.br (by decide) e.symm)) (fun e => l5 (by injection e)), heap_store hbm v', hop.grownF flat_i64D hg2 (own_ne_or hop hbm (by decide)), hfs.grownX hg2 (fun b e hx => hx.2.1 (by injection e)) (own_ne_or hfs hbm (by decide)), ho.grownF flat_co hg2 (own_ne_or ho hbm (by decide)), h.low, h.nf⟩
theorem MD.fsTo (h : MD w W DB RB MB FB nb nm A n cap vo vf vc ol fl cl) {l : List Fd} (hg : W.grownBy W' vf.ownBlock) (hb : Below w.heap.size W W') (ho : Own (fdM.on (fun b => BusyD RB MB FB vo vf vc b ∧ b < W.heap.size)) 59 w.heap.size W' v' l.length l) (hat : v'.ownBlock = none ∨ v'.ownBlock = vf.ownBlock ∨ v'.ownBlock = some W.heap.size) (hFl : FB < W.heap.size) : MD w (W'.setCell ⟨MB, 0, none⟩ v') DB RB MB FB nb nm A n cap vo v' vc ol l cl := by
  have hX : ∀ b, BusyD RB MB FB vo vf vc b ∧ b < W.heap.size → BusyD RB MB FB vo v' vc b := fun b ⟨⟨b9, b1, b0, b2, b3, b4⟩, hb⟩ => ⟨b9, b1, b0, b2, own_new hat hb b3, b4⟩
  obtain ⟨l1, l2, l3, l4, l5⟩ := h.low
  have hg2 : W'.grownBy (W'.setCell ⟨MB, 0, none⟩ v') (some MB) := grown_at grown_self 0 v'
  have hbm : W'.heap[MB]? = some (.cells #[vf, vc, .bool nm] 40 (0, 0)) := heap_grown hg h.bm (fun e => own_type_ne h.fs h.bm (by decide) e.symm)
  have hop := h.op.grownF flat_i64D hg (rows_apart h.op h.fs (by decide))
  have hcs := h.cs.grownF flat_co hg (rows_apart h.cs h.fs (by decide))
  have hfs := ho.widen (X' := BusyD RB MB FB vo v' vc) (fun b _ h => hX b h)
  exact ⟨(h.kept.trans hb).trans ((Below.refl _ _).setCell (p := ⟨MB, 0, none⟩) l3 _), heap_grown hg2 (heap_grown hg h.bd (fun e => own_type_ne h.fs h.bd (by decide) e.symm)) (fun e => l4 (by injection e)), heap_grown hg2 (heap_grown hg h.br (fun e => own_type_ne h.fs h.br (by decide) e.symm)) (fun e => l5 (by injection e)), heap_store hbm v', hop.grownF flat_i64D hg2 (own_ne_or hop hbm (by decide)), hfs.grownX hg2 (fun b e hx => hx.2.1 (by injection e)) (own_ne_or hfs hbm (by decide)), hcs.grownF flat_co hg2 (own_ne_or hcs hbm (by decide)), h.low, own_new hat hFl h.nf⟩
/-- the field that is made, as an element of the row of fields -/
theorem fx_rel (h : MD w W DB RB MB FB nb nm A n cap vo vf vc ol fl cl) (hF : FX w W FB U c g) : (fdM.on (fun b => BusyD RB MB FB vo vf vc b ∧ b < W.heap.size)).rel W (apart W vf) g (g.cellsAt (.slice U g.usages.length c)).toList := by
  obtain ⟨A', c', e, hc1, hc2⟩ := hF.us.isSlice
  injection e with e1 e2 e3
  subst e1 e3
  refine ⟨U, c, rfl, hc1, hc2, hF.us.sl_at _ (fun b hb => ?_) (fun _ _ hr => hr)⟩
  obtain ⟨_, cur, _, hh⟩ := ownBlock_heap34 hF.us hb
  have hlt := heap_lt hh
  have hne : ∀ {B : Nat} {cs : Array Value} {e : TypeId} {fr : Nat × Nat}, W.heap[B]? = some (.cells cs e fr) → e ≠ 27 → b ≠ B := fun hB he e2 => by
    subst e2
    rw [hh] at hB
    injection hB with hB
    injection hB with _ h4 _
    exact he h4.symm
  exact ⟨⟨hlt, own_type_ne h.fs hh (by decide)⟩, ⟨hne h.br (by decide), hne h.bm (by decide), hne hF.box (by decide), own_type_ne h.op hh (by decide), own_type_ne h.fs hh (by decide), own_type_ne h.cs hh (by decide)⟩, hlt⟩
end
end Go.Proofs.Ytegdigfcgeoboaa
/- The law's map of plain data: the end of a collection. Printed by gen_xm.py. -/
namespace Go.Proofs.Ytegdigfcgeoboaa
open Go.RowKit Go.Maps
attribute [local go_sem ↓] Go.wp_at_zero Go.wp_at_succ

theorem MD.pop {w W : World} {DB RB MB FB n cap g k m co : Nat} {nb nm : Bool} {A : Option Addr} {vf vc : Value} {ol : List Int} {fl : List Fd} {cl : List Co} (h : MD w W DB RB MB FB nb nm A n cap (.slice (some ⟨g, 0, none⟩) m co) vf vc ol fl cl) (hm : ol.length = m) (hk : k ≤ m) : MD w W DB RB MB FB nb nm A n cap (.slice (some ⟨g, 0, none⟩) k co) vf vc (ol.take k) fl cl := by
  have hop := h.op
  rw [hm] at hop
  have h2 := hop.take hk
  exact ⟨h.kept, h.bd, h.br, h.bm, by rw [List.length_take, hm, Nat.min_eq_left hk]; exact h2, h.fs.widen (fun b _ hx => hx), h.cs, h.low, h.nf⟩
noncomputable def code18d : Code := (Try.f19.body.bind (findQ 18)).getD .skip
set_option maxRecDepth 1000000 in
set_option maxHeartbeats 16000000 in
theorem q18 {u0 u7 u8 u9 u10 u11 u12 u13 u14 u15 u16 u17 u18 u19 u20 u21 u22 u23 u24 u25 u26 u27 u28 u29 u30 u31 u32 u33 u34 u35 u36 u37 u38 u39 u40 u41 u42 u43 u44 u45 u46 u47 u48 u49 u50 u51 u52 u53 u54 u55 u56 u57 u58 u59 u60 u61 u62 u63 u64 u65 u66 u67 u68 u69 u70 u71 u72 u73 u74 u75 u76 u77 u78 u79 u80 u81 u82 u83 u84 u85 u86 u87 u88 u89 u90 u91 u92 u93 u94 u95 u96 u97 u98 u99 u100 u101 u102 u103 u104 u105 u106 u107 u108 u109 u110 u111 u112 u113 u114 u115 u116 u117 u118 u119 u120 u121 u122 u123 u124 u125 u126 u127 u128 u129 u130 u131 u132 u133 u134 u135 u136 u137 u138 u139 u140 u141 u142 : Value} {w W : World} {DB RB MB FB ba oa n cap i : Nat} {nb nm : Bool} {vo vf vc : Value} {ol olf : List Int} {fl flf : List Fd} {cl clf : List Co} {f : PF} {dd : Nat} (hM : MD w W DB RB MB FB nb nb (some ⟨ba, oa, none⟩) n cap vo vf vc ol flf clf) (h7 : w.cell? ⟨ba, oa + i * 8 + 7, none⟩ = some (.int .u8 f.flags)) (hba : ba < w.heap.size) (hin : (i : Int) < (n : Int)) (hfl : u8k f.flags) (hdd : ol.length = dd) (hd5 : dd ≤ 6) (he : (if endsB f dd then ol.take (dd - 1) else ol) = olf)
    (Q : Exit → Act → World → Prop) (K : Act → World → Prop) (hK : ∀ a w', Code.wp Try.prog (restC code18d) Q a w' → K a w') (hQ : ∀ (s7 s26 s27 s28 s29 s30 s31 s32 s33 s34 s35 s36 s37 s38 s39 s40 s41 s42 s43 s44 s45 s46 s47 s48 s49 s50 s51 s52 s53 s54 s55 s56 s57 s58 s59 s60 s61 s62 s63 s64 s65 s66 s67 s68 s69 s70 s71 s72 s73 s74 s75 s76 s77 s78 s79 s80 s81 s82 s83 s84 s85 s86 s87 s88 s89 s90 s91 s92 s93 s94 s95 s96 s97 s98 s99 s100 s101 s102 s103 s104 s105 s106 s107 s108 s109 s110 s111 s112 s113 s114 s115 s116 s117 s118 s119 s120 s121 s122 s123 s124 s125 s126 s127 s128 s129 s130 s131 s132 s133 s134 s135 s136 s137 s138 s139 s140 s141 : Value) (v' vf' vc' : Value) (w' : World), MD w w' DB RB MB FB nb nb (some ⟨ba, oa, none⟩) n cap v' vf' vc' olf flf clf → Q .normal ⟨#[u0, .pointer (some ⟨DB, 0, none⟩), .pointer (some ⟨RB, 0, none⟩), .pointer (some ⟨MB, 0, none⟩), v', .int .i64 (i : Int), .pointer (some ⟨FB, 0, none⟩), s7, u8, u9, u10, u11, u12, u13, u14, u15, u16, u17, u18, u19, u20, u21, u22, u23, u24, u25, s26, s27, s28, s29, s30, s31, s32, s33, s34, s35, s36, s37, s38, s39, s40, s41, s42, s43, s44, s45, s46, s47, s48, s49, s50, s51, s52, s53, s54, s55, s56, s57, s58, s59, s60, s61, s62, s63, s64, s65, s66, s67, s68, s69, s70, s71, s72, s73, s74, s75, s76, s77, s78, s79, s80, s81, s82, s83, s84, s85, s86, s87, s88, s89, s90, s91, s92, s93, s94, s95, s96, s97, s98, s99, s100, s101, s102, s103, s104, s105, s106, s107, s108, s109, s110, s111, s112, s113, s114, s115, s116, s117, s118, s119, s120, s121, s122, s123, s124, s125, s126, s127, s128, s129, s130, s131, s132, s133, s134, s135, s136, s137, s138, s139, s140, s141, u142], []⟩ w') :
    Code.wp Try.prog (headC code18d) (Exit.then K Q) ⟨#[u0, .pointer (some ⟨DB, 0, none⟩), .pointer (some ⟨RB, 0, none⟩), .pointer (some ⟨MB, 0, none⟩), vo, .int .i64 (i : Int), .pointer (some ⟨FB, 0, none⟩), u7, u8, u9, u10, u11, u12, u13, u14, u15, u16, u17, u18, u19, u20, u21, u22, u23, u24, u25, u26, u27, u28, u29, u30, u31, u32, u33, u34, u35, u36, u37, u38, u39, u40, u41, u42, u43, u44, u45, u46, u47, u48, u49, u50, u51, u52, u53, u54, u55, u56, u57, u58, u59, u60, u61, u62, u63, u64, u65, u66, u67, u68, u69, u70, u71, u72, u73, u74, u75, u76, u77, u78, u79, u80, u81, u82, u83, u84, u85, u86, u87, u88, u89, u90, u91, u92, u93, u94, u95, u96, u97, u98, u99, u100, u101, u102, u103, u104, u105, u106, u107, u108, u109, u110, u111, u112, u113, u114, u115, u116, u117, u118, u119, u120, u121, u122, u123, u124, u125, u126, u127, u128, u129, u130, u131, u132, u133, u134, u135, u136, u137, u138, u139, u140, u141, u142], []⟩ W := by
  obtain ⟨AO, co, rfl, ho1, ho2⟩ := hM.op.isSlice
  rw [hdd] at hM ho1 ⊢
  have d1 : W.cell? ⟨DB, 1, none⟩ = some (.slice (some ⟨ba, oa, none⟩) n cap) := cell_heap hM.bd (o := 1) rfl
  have lD := heap_lt hM.bd
  have h7W := (hM.kept.cell (p := ⟨ba, oa + i * 8 + 7, none⟩) hba).trans h7
  have hbaW := Nat.lt_of_lt_of_le hba hM.kept.size
  have hi0 : (0 : Int) ≤ (i : Int) := by omega
  unfold maxLen at ho2
  unfold endsB at he
  obtain ⟨c1, hc1⟩ : ∃ c, (f.flags / 16 % 2 == 1) = c := ⟨_, rfl⟩
  obtain ⟨c2, hc2⟩ : ∃ c, decide (1 < dd) = c := ⟨_, rfl⟩
  rw [hc1, hc2] at he
  have n1 : (bits .and .u8 f.flags 16 != 0) = c1 := by rw [bits16 hfl, ← hc1]; rcases (show f.flags / 16 % 2 = 0 ∨ f.flags / 16 % 2 = 1 by omega) with e | e <;> rw [e] <;> rfl
  have n1' : (bits .and .u8 f.flags 16 == 0) = !c1 := by rw [← n1]; simp [bne]
  have n2 : decide (1 < (dd : Int)) = c2 := by rw [← hc2]; congr 1; exact propext (by omega)
  have Hc2 := hide hc2
  have HM := hide hM
  have HQ := hide hQ
  have He := hide he
  have Hdd := hide hdd
  clear hc1 hc2 hM hQ he h7 hba hdd
  conv => arg 2; whnf
  conv at hK => enter [a, w', 1, 2]; whnf
  cases c1 with
  | false =>
    go_wp2_with fail
    refine HQ.out _ _ _ _ _ _ _ _ _ _ _ _ _ _ _ _ _ _ _ _ _ _ _ _ _ _ _ _ _ _ _ _ _ _ _ _ _ _ _ _ _ _ _ _ _ _ _ _ _ _ _ _ _ _ _ _ _ _ _ _ _ _ _ _ _ _ _ _ _ _ _ _ _ _ _ _ _ _ _ _ _ _ _ _ _ _ _ _ _ _ _ _ _ _ _ _ _ _ _ _ _ _ _ _ _ _ _ _ _ _ _ _ _ _ _ _ _ _ _ _ _ (by rw [← He.out]; exact HM.out)
  | true =>
  cases c2 with
  | true =>
    have n3 : 1 < (dd : Int) := of_decide_eq_true n2
    obtain ⟨k, hk⟩ : ∃ k, dd = k + 1 := ⟨dd - 1, by omega⟩
    subst hk
    have hMo := HM.out
    obtain ⟨gg, ccap, ccur, hve, hgh, _, _⟩ := own_block34 (by have h9 := hMo.op; rw [Hdd.out] at h9; exact h9) (by omega)
    injection hve with e1 _ e3
    subst e1 e3
    have HM2 := hide (hMo.pop Hdd.out (k := k) (by omega))
    have hw1 : IntKind.i64.wrap (((k + 1 : Nat) : Int) - 1) = (k : Int) := by rw [IntKind.wrap_i64]; omega
    have hw2 : IntKind.i64.wrap ((k : Int) + 1 - 1) = (k : Int) := by rw [IntKind.wrap_i64]; omega
    have hk0 : (0 : Int) ≤ (k : Int) := by omega
    have hk1 : (k : Int) ≤ (co : Int) := by omega
    have hk2 : k ≤ co := by omega
    have hgl := heap_lt hgh
    clear hMo hgh
    go_wp2_with fail
    refine HQ.out _ _ _ _ _ _ _ _ _ _ _ _ _ _ _ _ _ _ _ _ _ _ _ _ _ _ _ _ _ _ _ _ _ _ _ _ _ _ _ _ _ _ _ _ _ _ _ _ _ _ _ _ _ _ _ _ _ _ _ _ _ _ _ _ _ _ _ _ _ _ _ _ _ _ _ _ _ _ _ _ _ _ _ _ _ _ _ _ _ _ _ _ _ _ _ _ _ _ _ _ _ _ _ _ _ _ _ _ _ _ _ _ _ _ _ _ _ _ _ _ _ (by rw [← He.out]; exact HM2.out)
  | false =>
    go_wp2_with fail
    refine HQ.out _ _ _ _ _ _ _ _ _ _ _ _ _ _ _ _ _ _ _ _ _ _ _ _ _ _ _ _ _ _ _ _ _ _ _ _ _ _ _ _ _ _ _ _ _ _ _ _ _ _ _ _ _ _ _ _ _ _ _ _ _ _ _ _ _ _ _ _ _ _ _ _ _ _ _ _ _ _ _ _ _ _ _ _ _ _ _ _ _ _ _ _ _ _ _ _ _ _ _ _ _ _ _ _ _ _ _ _ _ _ _ _ _ _ _ _ _ _ _ _ _ (by rw [← He.out]; exact HM.out)
end Go.Proofs.Ytegdigfcgeoboaa
/- The law's map of plain data: the field is appended. Printed by gen_xm.py. -/
namespace Go.Proofs.Ytegdigfcgeoboaa
open Go.RowKit Go.Maps
attribute [local go_sem ↓] Go.wp_at_zero Go.wp_at_succ

noncomputable def code16d : Code := (Try.f19.body.bind (findQ 16)).getD .skip
set_option maxRecDepth 1000000 in
set_option maxHeartbeats 16000000 in
theorem q16 {u0 u7 u8 u9 u10 u11 u12 u13 u14 u15 u16 u17 u18 u19 u20 u21 u22 u23 u24 u25 u26 u27 u28 u29 u30 u31 u32 u33 u34 u35 u36 u37 u38 u39 u40 u41 u42 u43 u44 u45 u46 u47 u48 u49 u50 u51 u52 u53 u54 u55 u56 u57 u58 u59 u60 u61 u62 u63 u64 u65 u66 u67 u68 u69 u70 u71 u72 u73 u74 u75 u76 u77 u78 u79 u80 u81 u82 u83 u84 u85 u86 u87 u88 u89 u90 u91 u92 u93 u94 u95 u96 u97 u98 u99 u100 u101 u102 u103 u104 u105 u106 u107 u108 u109 u110 u111 u112 u113 u114 u115 u116 u117 u118 u119 u120 u121 u122 u123 u124 u125 u126 u127 u128 u129 u130 u131 u132 u133 u134 u135 u136 u137 u138 u139 u140 u141 u142 : Value} {w W : World} {DB RB MB FB ba oa n cap i : Nat} {nb nm : Bool} {vo vf vc : Value} {ol olf : List Int} {fl flf : List Fd} {cl clf : List Co} {f : PF} {dd c : Nat} {U : Option Addr} {g : Fd} (hM : MD w W DB RB MB FB nb nm (some ⟨ba, oa, none⟩) n cap vo vf vc ol fl clf) (hF : FX w W FB U c g) (h7 : w.cell? ⟨ba, oa + i * 8 + 7, none⟩ = some (.int .u8 f.flags)) (hba : ba < w.heap.size) (hin : (i : Int) < (n : Int)) (hfl : u8k f.flags) (hdd : ol.length = dd) (hd5 : dd ≤ 6) (hfl20 : fl.length ≤ 20) (he : (if endsB f dd then ol.take (dd - 1) else ol) = olf) (hef : fl ++ [g] = flf)
    (Q : Exit → Act → World → Prop) (K : Act → World → Prop) (hK : ∀ a w', Code.wp Try.prog (restC code16d) Q a w' → K a w') (hQ : ∀ (s7 s26 s27 s28 s29 s30 s31 s32 s33 s34 s35 s36 s37 s38 s39 s40 s41 s42 s43 s44 s45 s46 s47 s48 s49 s50 s51 s52 s53 s54 s55 s56 s57 s58 s59 s60 s61 s62 s63 s64 s65 s66 s67 s68 s69 s70 s71 s72 s73 s74 s75 s76 s77 s78 s79 s80 s81 s82 s83 s84 s85 s86 s87 s88 s89 s90 s91 s92 s93 s94 s95 s96 s97 s98 s99 s100 s101 s102 s103 s104 s105 s106 s107 s108 s109 s110 s111 s112 s113 s114 s115 s116 s117 s118 s119 s120 s121 s122 s123 s124 s125 s126 s127 s128 s129 s130 s131 s132 s133 s134 s135 s136 s137 s138 s139 s140 s141 : Value) (v' vf' vc' : Value) (w' : World), MD w w' DB RB MB FB nb nb (some ⟨ba, oa, none⟩) n cap v' vf' vc' olf flf clf → Q .normal ⟨#[u0, .pointer (some ⟨DB, 0, none⟩), .pointer (some ⟨RB, 0, none⟩), .pointer (some ⟨MB, 0, none⟩), v', .int .i64 (i : Int), .pointer (some ⟨FB, 0, none⟩), s7, u8, u9, u10, u11, u12, u13, u14, u15, u16, u17, u18, u19, u20, u21, u22, u23, u24, u25, s26, s27, s28, s29, s30, s31, s32, s33, s34, s35, s36, s37, s38, s39, s40, s41, s42, s43, s44, s45, s46, s47, s48, s49, s50, s51, s52, s53, s54, s55, s56, s57, s58, s59, s60, s61, s62, s63, s64, s65, s66, s67, s68, s69, s70, s71, s72, s73, s74, s75, s76, s77, s78, s79, s80, s81, s82, s83, s84, s85, s86, s87, s88, s89, s90, s91, s92, s93, s94, s95, s96, s97, s98, s99, s100, s101, s102, s103, s104, s105, s106, s107, s108, s109, s110, s111, s112, s113, s114, s115, s116, s117, s118, s119, s120, s121, s122, s123, s124, s125, s126, s127, s128, s129, s130, s131, s132, s133, s134, s135, s136, s137, s138, s139, s140, s141, u142], []⟩ w') :
    Code.wp Try.prog (headC code16d) (Exit.then K Q) ⟨#[u0, .pointer (some ⟨DB, 0, none⟩), .pointer (some ⟨RB, 0, none⟩), .pointer (some ⟨MB, 0, none⟩), vo, .int .i64 (i : Int), .pointer (some ⟨FB, 0, none⟩), u7, u8, u9, u10, u11, u12, u13, u14, u15, u16, u17, u18, u19, u20, u21, u22, u23, u24, u25, u26, u27, u28, u29, u30, u31, u32, u33, u34, u35, u36, u37, u38, u39, u40, u41, u42, u43, u44, u45, u46, u47, u48, u49, u50, u51, u52, u53, u54, u55, u56, u57, u58, u59, u60, u61, u62, u63, u64, u65, u66, u67, u68, u69, u70, u71, u72, u73, u74, u75, u76, u77, u78, u79, u80, u81, u82, u83, u84, u85, u86, u87, u88, u89, u90, u91, u92, u93, u94, u95, u96, u97, u98, u99, u100, u101, u102, u103, u104, u105, u106, u107, u108, u109, u110, u111, u112, u113, u114, u115, u116, u117, u118, u119, u120, u121, u122, u123, u124, u125, u126, u127, u128, u129, u130, u131, u132, u133, u134, u135, u136, u137, u138, u139, u140, u141, u142], []⟩ W := by
  obtain ⟨us, hus⟩ : ∃ us, g.usages.length = us := ⟨_, rfl⟩
  obtain ⟨AF, cf, rfl, hf1, hf2⟩ := hM.fs.isSlice
  obtain ⟨fn, hfn⟩ : ∃ fn, fl.length = fn := ⟨_, rfl⟩
  rw [hfn] at hM hf1 hfl20
  have hB := hF.box
  rw [hus] at hB
  unfold Fd.cellsAt at hB
  have m0 : W.cell? ⟨MB, 0, none⟩ = some (.slice AF fn cf) := cell_heap hM.bm (o := 0) rfl
  have lM := heap_lt hM.bm
  have lF := heap_lt hB
  have hkW : Kept W (W.alloc (.cells #[.int .u8 g.kind, .int .u8 g.report, .int .i64 g.parent, .slice U us c, .int .i64 g.lo, .int .i64 g.hi, .int .i64 g.size, .int .i64 g.count, .int .i64 g.pos, .bool g.const, .bool g.array, .bool g.signed, .bool g.rel] 59)) := (Below.refl _ _).alloc (Nat.le_refl _) _
  have h4 := hM.keep hkW
  have hrel := fx_rel h4 (hF.keep hkW)
  rw [hus] at hrel
  unfold Fd.cellsAt at hrel
  have hown : Own (fdM.on (fun b => BusyD RB MB FB vo (.slice AF fn cf) vc b ∧ b < (W.alloc (.cells #[.int .u8 g.kind, .int .u8 g.report, .int .i64 g.parent, .slice U us c, .int .i64 g.lo, .int .i64 g.hi, .int .i64 g.size, .int .i64 g.count, .int .i64 g.pos, .bool g.const, .bool g.array, .bool g.signed, .bool g.rel] 59)).heap.size)) 59 w.heap.size (W.alloc (.cells #[.int .u8 g.kind, .int .u8 g.report, .int .i64 g.parent, .slice U us c, .int .i64 g.lo, .int .i64 g.hi, .int .i64 g.size, .int .i64 g.count, .int .i64 g.pos, .bool g.const, .bool g.array, .bool g.signed, .bool g.rel] 59)) (.slice AF fn cf) fn fl := by have h9 := h4.fs.widen (fun b h1 h2 => (⟨h2, h1⟩ : BusyD RB MB FB vo (.slice AF fn cf) vc b ∧ b < (W.alloc (.cells #[.int .u8 g.kind, .int .u8 g.report, .int .i64 g.parent, .slice U us c, .int .i64 g.lo, .int .i64 g.hi, .int .i64 g.size, .int .i64 g.count, .int .i64 g.pos, .bool g.const, .bool g.array, .bool g.signed, .bool g.rel] 59)).heap.size)); rw [hfn] at h9; exact h9
  obtain ⟨i1, hi1, hz0, hz1, hz2⟩ := info_parts info59
  have hsz : w.heap.size ≤ (W.alloc (.cells #[.int .u8 g.kind, .int .u8 g.report, .int .i64 g.parent, .slice U us c, .int .i64 g.lo, .int .i64 g.hi, .int .i64 g.size, .int .i64 g.count, .int .i64 g.pos, .bool g.const, .bool g.array, .bool g.signed, .bool g.rel] 59)).heap.size := h4.kept.size
  have hFl : FB < (W.alloc (.cells #[.int .u8 g.kind, .int .u8 g.report, .int .i64 g.parent, .slice U us c, .int .i64 g.lo, .int .i64 g.hi, .int .i64 g.size, .int .i64 g.count, .int .i64 g.pos, .bool g.const, .bool g.array, .bool g.signed, .bool g.rel] 59)).heap.size := Nat.lt_of_lt_of_le lF hkW.size
  have HM := hide hM
  have HF := hide hF
  have HB := hide hB
  have HQ := hide hQ
  have He := hide he
  have Hef := hide hef
  have Hdd := hide hdd
  have Hfn := hide hfn
  have Hus := hide hus
  have H4 := hide h4
  have HkW := hide hkW
  clear hM hF hB hQ he hef hdd hfn hus h4 hkW
  conv => arg 2; whnf
  conv at hK => enter [a, w', 1, 2]; whnf
  go_upto_region 17 with (first
    | (refine wpList_load_row rfl 59 (.tmp 6) rfl _ (by rfl) 59 _ (0, 0) _ HB.out Try.underlying59 rfl (by kernel_rfl) ?_)
    | (at_builtin; refine wpList_append_el (T := fdM.on (fun b => BusyD RB MB FB vo (.slice AF fn cf) vc b ∧ b < (W.alloc (.cells #[.int .u8 g.kind, .int .u8 g.report, .int .i64 g.parent, .slice U us c, .int .i64 g.lo, .int .i64 g.hi, .int .i64 g.size, .int .i64 g.count, .int .i64 g.pos, .bool g.const, .bool g.array, .bool g.signed, .bool g.rel] 59)).heap.size)) rfl (.tmp 116) (.tmp 118) 37 rfl w.heap.size 59 i1 _ 88 Try.underlying37 hi1 hz0 hz1 hz2 rfl (show 0 < 13 by decide) _ fn fl (by rfl) hown W.heap.size _ _ g (by rfl) (heap_at _ rfl) hrel (by simp [Value.oneCell']) (by unfold maxLen; omega) (by omega) hsz ?_; intro gg cap2 w4 hown4 hg4 hb4 hat4 hlt4
       have bm4 : w4.heap[MB]? = some (.cells #[.slice AF fn cf, vc, .bool nm] 40 (0, 0)) := heap_grown hg4 H4.out.bm (fun e => own_type_ne H4.out.fs H4.out.bm (by decide) e.symm)
       have fm4 := frozen_heap bm4 (o := 0)
       have lm4 := heap_lt bm4
       have cm4 : w4.cell? ⟨MB, 0, none⟩ = some (.slice AF fn cf) := cell_heap bm4 (o := 0) rfl))
  have h9 := H4.out.fsTo (v' := .slice (some ⟨gg, 0, none⟩) (fn + 1) cap2) hg4 hb4 (l := fl ++ [g]) (by rw [List.length_append, Hfn.out]; exact hown4) (hat4.elim (fun e => .inr (.inl e.symm)) (fun e => .inr (.inr (by rw [e]; rfl)))) hFl
  refine wp_at (fun V => MD w V DB RB MB FB nb nm (some ⟨ba, oa, none⟩) n cap vo (.slice (some ⟨gg, 0, none⟩) (fn + 1) cap2) vc ol (fl ++ [g]) clf) h9 (fun V hV => ?_)
  clear h9 bm4 fm4 lm4 cm4 hown4 hg4 hb4 hat4 hlt4 hown hrel m0 lM lF hsz hFl
  have d0 : V.cell? ⟨DB, 0, none⟩ = some (.bool nb) := cell_heap hV.bd (o := 0) rfl
  have m2 : V.cell? ⟨MB, 2, none⟩ = some (.bool nm) := cell_heap hV.bm (o := 2) rfl
  have fm2 := frozen_heap hV.bm (o := 2)
  have lM := heap_lt hV.bm
  have lD := heap_lt hV.bd
  have hV2 := hV.cell 2 (.bool nb) rfl hV.fs hV.cs hV.nf
  have HV2 := hide (Hef.out ▸ hV2)
  clear hV hV2
  go_upto_region 18 with fail
  refine q18 (nm := nb) (fl := fl) (cl := clf) HV2.out h7 hba hin hfl Hdd.out hd5 He.out _ _ ?_ HQ.out <;> assumption
end Go.Proofs.Ytegdigfcgeoboaa
