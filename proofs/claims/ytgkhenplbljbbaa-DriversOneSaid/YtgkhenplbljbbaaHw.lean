
/- The law's state, and its changes. No condition. -/
import Derived.Test.YtgkhenplbljbbaaChecked
import Derived.Deep.RegionHeld3
import Derived.Deep.DrawnRows
import Derived.Deep.DeepCutAuto
import Derived.Deep.LoopGhost
import Derived.Outline
import Derived.Handy
import Derived.Test.YtgkhenplbljbbaaHv
set_option linter.unusedVariables false
set_option linter.unusedSimpArgs false
set_option linter.unusedSectionVars false
namespace Go.Proofs.Ytgkhenplbljbbaa
open Go.RowKit Go.Maps

structure Ac where
  a : Int
  gone : Bool
  ids : Int
  cfg : List Cp
  cur : Int
def acT : Ty Ac :=
  ⟨5, fun w F d cs => ∃ A c, cs = [.int .u8 d.a, .bool d.gone, .int .u8 d.ids, .slice A d.cfg.length c, .int .u16 d.cur] ∧ d.cfg.length ≤ c ∧ c ≤ maxLen ∧ u8ok d.a ∧ u8ok d.ids ∧ (0 ≤ d.cur ∧ d.cur < 65536) ∧ Sl cpT w F A d.cfg.length d.cfg,
   fun {_ _ _ _} ⟨_, _, e, _⟩ => by rw [e]; rfl,
   fun {_ _ _ _ _ _} ⟨A, c, e, h1, h2, h3, h4, h5, h⟩ hB hk => ⟨A, c, e, h1, h2, h3, h4, h5, h.keep hB hk⟩⟩
theorem ac_at {w w' : World} {B n k : Nat} {A : Option Addr} {l : List Ac} (h : Sl acT w (low B) A n l) (hb : Below B w w') (hk : k < n) : ∃ d b off A' c', l[k]? = some d ∧ A = some ⟨b, off, none⟩ ∧ b < B ∧ b < w'.heap.size ∧ d.cfg.length ≤ c' ∧ c' ≤ maxLen ∧ u8ok d.a ∧ u8ok d.ids ∧ (0 ≤ d.cur ∧ d.cur < 65536) ∧
    w'.cell? ⟨b, off + k * 5, none⟩ = some (.int .u8 d.a) ∧ w'.cell? ⟨b, off + k * 5 + 1, none⟩ = some (.bool d.gone) ∧ w'.cell? ⟨b, off + k * 5 + 2, none⟩ = some (.int .u8 d.ids) ∧ w'.cell? ⟨b, off + k * 5 + 3, none⟩ = some (.slice A' d.cfg.length c') ∧ w'.cell? ⟨b, off + k * 5 + 4, none⟩ = some (.int .u16 d.cur) ∧ Sl cpT w (low B) A' d.cfg.length d.cfg := by
  obtain ⟨d, b, off, cs, hx, hA, hbb, ⟨A', c', rfl, h1, h2, h3, h4, h5, hs⟩, hc⟩ := h.at hk
  have hc' := range_below hc hb hbb
  exact ⟨d, b, off, A', c', hx, hA, hbb, World.block_lt_of_cell? w' _ (hc' 0 _ rfl), h1, h2, h3, h4, h5, hc' 0 _ rfl, hc' 1 _ rfl, hc' 2 _ rfl, hc' 3 _ rfl, hc' 4 _ rfl, hs⟩

/-- the registry's blocks: not its map, none of the law's -/
def XF (m T B : Nat) (vs : Nat → Value) : Nat → Prop := fun b => b ≠ m ∧ b ≠ T ∧ b ≠ B ∧ ∀ n, n < 8 → (vs n).ownBlock ≠ some b
/-- the blocks lie apart -/
structure Apart (base G m T B : Nat) : Prop where
  g : G < base ∧ G ≠ m ∧ G ≠ T ∧ G ≠ B
  m : m < base ∧ m ≠ T ∧ m ≠ B
/-- the law's state -/
structure LS (w : World) (base G m T B nl : Nat) (l : List Drv) (K : Nat) (vs : Nat → Value) (S : St) (F : Nat → List Bind) (th : Nat → Bool) : Prop where
  reg : Reg w (XF m T B vs) G m nl l K S
  mem : Mem w base T B vs F th
  good : ∀ n, GoodC l (S n)
  high : ∀ n, 8 ≤ n → S n = none
section
variable {w w' : World} {base G m T B nl K : Nat} {l : List Drv} {vs : Nat → Value} {S : St} {F : Nat → List Bind} {th : Nat → Bool}
theorem XF_g (hap : Apart base G m T B) (h : Mem w base T B vs F th) : XF m T B vs G :=
  ⟨hap.g.2.1, hap.g.2.2.1, hap.g.2.2.2, fun n hn e => by have := ((h.own n hn).lt e).1; have := hap.g.1; omega⟩
theorem XF_m (vs : Nat → Value) : ¬ XF m T B vs m := fun h => h.1 rfl
theorem XF_new (h : LS w base G m T B nl l K vs S F th) (hb : base ≤ w.heap.size) (hap : Apart base G m T B) : ∀ b, w.heap.size ≤ b → XF m T B vs b := by
  intro b hbw
  have h1 := hap.m.1
  have h2 := h.mem.tb
  exact ⟨by omega, by omega, by omega, fun n hn e => by have := ((h.mem.own n hn).lt e).2; omega⟩
theorem LS.kept (h : LS w base G m T B nl l K vs S F th) (hk : Kept w w') : LS w' base G m T B nl l K vs S F th := ⟨h.reg.kept hk, h.mem.kept hk, h.good, h.high⟩
/-- the device at q is gone: its flag and its list are cleared -/
theorem LS.cleared (hap : Apart base G m T B) (hM : Mem w base T B vs F th) (hR : Reg w (XF m T B vs) G m nl l K S) (hg : ∀ n, GoodC l (S n)) (hh : ∀ n, 8 ≤ n → S n = none) {q : Nat} (hq : q < 8) (hs : S q = none)
    (hF : ∀ n, n ≠ q → F n = bindS l (n : Int) (S n)) (hth : ∀ n, n ≠ q → th n = (S n).isSome) :
    ∃ vs', LS ((w.setCell ⟨T, q, none⟩ (.bool false)).setCell ⟨B, q, none⟩ (.slice none 0 0)) base G m T B nl l K vs' S (fun n : Nat => bindS l (n : Int) (S n)) (fun n : Nat => (S n).isSome) := by
  refine ⟨setF vs q (.slice none 0 0), ?_, ?_, hg, hh⟩
  · have h1 : Reg w (XF m T B (setF vs q (.slice none 0 0))) G m nl l K S := hR.foot (fun b _ hx => ⟨hx.1, hx.2.1, hx.2.2.1, fun n hn e => by
      by_cases hn' : n = q
      · rw [hn', setF_same] at e; cases e
      · rw [setF_other _ _ hn'] at e; exact hx.2.2.2 n hn e⟩)
    have hG : XF m T B (setF vs q (.slice none 0 0)) G := by
      have h := XF_g hap hM
      exact ⟨h.1, h.2.1, h.2.2.1, fun n hn e => by
        by_cases hn' : n = q
        · rw [hn', setF_same] at e; cases e
        · rw [setF_other _ _ hn'] at e; exact h.2.2.2 n hn e⟩
    refine (h1.grown (grown_at grown_self q (.bool false)) (fun b e hx => ?_) hG (fun e => hap.m.2.1 (by injection e))).grown (grown_at grown_self q (.slice none 0 0)) (fun b e hx => ?_) hG (fun e => hap.m.2.2 (by injection e))
    · injection e with e; exact hx.2.1 e
    · injection e with e; exact hx.2.2.1 e
  · have h2 := (hM.put hq false).putList hq (.slice none 0 0) [] (Own.nil _ _ _ _) (fun k hk hkq g e => by cases e)
    have e1 : setF F q [] = fun n : Nat => bindS l (n : Int) (S n) := by
      funext n
      by_cases hn : n = q
      · rw [hn, setF_same, hs]; rfl
      · rw [setF_other _ _ hn, hF n hn]
    have e2 : setF th q false = fun n => (S n).isSome := by
      funext n
      by_cases hn : n = q
      · rw [hn, setF_same, hs]; rfl
      · rw [setF_other _ _ hn, hth n hn]
    rw [e1, e2] at h2
    exact h2
/-- a device has been attached at q: its flag is set; its list has grown as far as j -/
structure LA (w : World) (base G m T B nl : Nat) (l : List Drv) (K : Nat) (vs : Nat → Value) (S : St) (q : Nat) (L : List Bind) : Prop where
  reg : Reg w (XF m T B vs) G m nl l K S
  mem : Mem w base T B vs (setF (fun n : Nat => bindS l (n : Int) (S n)) q L) (fun n : Nat => (S n).isSome)
theorem LA.start (hap : Apart base G m T B) {S0 : St} {q : Nat} (hq : q < 8) {c : Int × List Int} (hM : Mem w base T B vs (fun n : Nat => bindS l (n : Int) (S0 n)) (fun n => (S0 n).isSome)) (hs0 : S0 q = none)
    (hR : Reg w (XF m T B vs) G m nl l K (upd S0 q (some c))) : LA (w.setCell ⟨T, q, none⟩ (.bool true)) base G m T B nl l K vs (upd S0 q (some c)) q [] := by
  refine ⟨hR.grown (grown_at grown_self q (.bool true)) (fun b e hx => by injection e with e; exact hx.2.1 e) (XF_g hap hM) (fun e => hap.m.2.1 (by injection e)), ?_⟩
  have h2 := hM.put hq true
  have e1 : (fun n : Nat => bindS l (n : Int) (S0 n)) = setF (fun n : Nat => bindS l (n : Int) (upd S0 q (some c) n)) q [] := by
    funext n
    by_cases hn : n = q
    · rw [hn, setF_same, hs0]; rfl
    · rw [setF_other _ _ hn]; simp [upd, hn]
  have e2 : setF (fun n => (S0 n).isSome) q true = fun n => (upd S0 q (some c) n).isSome := by
    funext n
    by_cases hn : n = q
    · rw [hn, setF_same]; simp [upd]
    · rw [setF_other _ _ hn]; simp [upd, hn]
  rw [e1, e2] at h2
  exact h2
theorem LA.kept {q : Nat} {L : List Bind} (h : LA w base G m T B nl l K vs S q L) (hk : Kept w w') : LA w' base G m T B nl l K vs S q L := ⟨h.reg.kept hk, h.mem.kept hk⟩
theorem setF_idem {α : Type} (f : Nat → α) (n : Nat) (x y : α) : setF (setF f n x) n y = setF f n y := by
  funext k
  unfold setF
  split <;> rfl
/-- one binding more -/
theorem LA.more {q : Nat} (hq : q < 8) (hap : Apart base G m T B) {L L' : List Bind} (h : LA w base G m T B nl l K vs S q L) {v : Value} (hown : Own bdT 82 base w' v L'.length L') (hg : w.grownBy w' (vs q).ownBlock) (hat : v.ownBlock = (vs q).ownBlock ∨ ∃ g, v.ownBlock = some g ∧ w.heap.size ≤ g) :
    LA (w'.setCell ⟨B, q, none⟩ v) base G m T B nl l K (setF vs q v) S q L' := by
  have hne : ∀ b, b < base → some b ≠ (vs q).ownBlock := fun b hb e => by have := ((h.mem.own q hq).lt e.symm).1; omega
  have hnv : ∀ k, k < 8 → k ≠ q → ∀ g, v.ownBlock = some g → (vs k).ownBlock ≠ some g := by
    intro k hk hkq g hv e
    rcases hat with h1 | ⟨g', h1, h2⟩
    · exact h.mem.apart k q hk hq hkq g e (h1.symm.trans hv)
    · rw [h1] at hv
      injection hv with hv
      have := ((h.mem.own k hk).lt e).2
      omega
  refine ⟨?_, ?_⟩
  · have h1 : Reg w (fun b => XF m T B vs b ∧ XF m T B (setF vs q v) b) G m nl l K S := h.reg.foot (fun b hb hx => ⟨hx, hx.1, hx.2.1, hx.2.2.1, fun n hn e => by
      by_cases hn' : n = q
      · rw [hn', setF_same] at e
        rcases hat with h1 | ⟨g', h1, h2⟩
        · exact hx.2.2.2 q hq (h1.symm.trans e)
        · rw [h1] at e; injection e with e; omega
      · rw [setF_other _ _ hn'] at e; exact hx.2.2.2 n hn e⟩)
    have hG := XF_g hap h.mem
    have hG2 : XF m T B (setF vs q v) G := ⟨hG.1, hG.2.1, hG.2.2.1, fun n hn e => by
      by_cases hn' : n = q
      · rw [hn', setF_same] at e
        rcases hat with h1 | ⟨g', h1, h2⟩
        · exact hG.2.2.2 q hq (h1.symm.trans e)
        · rw [h1] at e; injection e with e
          have := hap.g.1
          obtain ⟨bd, f, h3, _⟩ := h.reg
          have := heap_lt h3
          omega
      · rw [setF_other _ _ hn'] at e; exact hG.2.2.2 n hn e⟩
    have h2 := h1.grown hg (fun b e hx => hx.1.2.2.2 q hq e.symm) ⟨hG, hG2⟩ (fun e => hne m hap.m.1 e)
    have h3 : Reg w' (XF m T B (setF vs q v)) G m nl l K S := h2.foot (fun b _ hx => hx.2)
    exact h3.grown (grown_at grown_self q v) (fun b e hx => by injection e with e; exact hx.2.2.1 e) hG2 (fun e => hap.m.2.2 (by injection e))
  · obtain ⟨⟨c1, h3, h4⟩, ⟨c2, h5, h6⟩, h7, h8, h9⟩ := h.mem
    have e3 : w'.heap[T]? = some (.cells c1 72 (0, 0)) := (hg.block T (heap_lt h3) (hne T h9.1)).trans h3
    have e5 : w'.heap[B]? = some (.cells c2 74 (0, 0)) := (hg.block B (heap_lt h5) (hne B h9.2.1)).trans h5
    refine ⟨⟨c1, heap_other e3 h9.2.2, h4⟩, ⟨_, heap_store e5 _, cells_put h6 hq v⟩, fun k hk => ?_, fun i k hi hk hik g hgg => ?_, h9⟩
    · by_cases hkn : k = q
      · subst hkn
        rw [setF_same, setF_same]
        exact hown.setCell flat_bd h9.2.1 _
      · rw [setF_other _ _ hkn, setF_other _ _ hkn]
        have := h.mem.other hq hg k hk hkn
        rw [setF_other _ _ hkn] at this
        exact this.setCell flat_bd h9.2.1 _
    · by_cases hin : i = q
      · subst hin
        rw [setF_same] at hgg
        rw [setF_other _ _ (fun e => hik e.symm)]
        exact hnv k hk (fun e => hik e.symm) g hgg
      · rw [setF_other _ _ hin] at hgg
        by_cases hkn : k = q
        · subst hkn
          rw [setF_same]
          exact fun e => hnv i hi hin g e hgg
        · rw [setF_other _ _ hkn]
          exact h8 i k hi hk hik g hgg
/-- all bindings are there -/
theorem LA.end {q : Nat} (h : LA w base G m T B nl l K vs S q (bindS l (q : Int) (S q))) (hg : ∀ n, GoodC l (S n)) (hh : ∀ n, 8 ≤ n → S n = none) : LS w base G m T B nl l K vs S (fun n : Nat => bindS l (n : Int) (S n)) (fun n : Nat => (S n).isSome) := by
  have e1 : setF (fun n : Nat => bindS l (n : Int) (S n)) q (bindS l (q : Int) (S q)) = fun n : Nat => bindS l (n : Int) (S n) := by
    funext n
    by_cases hn : n = q
    · rw [hn, setF_same]
    · rw [setF_other _ _ hn]
  have h2 := h.mem
  rw [e1] at h2
  exact ⟨h.reg, h2, hg, hh⟩
end
end Go.Proofs.Ytgkhenplbljbbaa
