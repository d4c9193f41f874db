/- The law of the notes: a log and three lists, plain and in the store. -/
import Derived.Test.YteeaimbinhmjfaaHist12
namespace Go.Proofs.Yteeaimbinhmjfaa.Hist
open Go.RowKit Go.Proofs.Yteeaimbinhmjfaa.Flat Go.Proofs.YteeaimbinhmjfaaW.PrintWords Go.Proofs.YteeaimbinhmjfaaW.PrintLast Go.Proofs.YteeaimbinhmjfaaW.PrintMore
set_option linter.unusedVariables false
set_option linter.unusedSimpArgs false
set_option maxRecDepth 100000
def tickB (z : List (List Value)) (i : Nat) : Bool := match z[i]? with
  | some (.bool q :: _) => q
  | _ => false
def stepN (z : List (List Value)) : Nat → Int
  | 0 => 0
  | i + 1 => if tickB z i = true then stepN z i + 1 else stepN z i
theorem stepN_le (z : List (List Value)) (i : Nat) : 0 ≤ stepN z i ∧ stepN z i ≤ i := by
  induction i with
  | zero => simp [stepN]
  | succ i ih => rw [stepN]; split <;> omega
def allN (z t : List (List Value)) : Nat → List (List Value)
  | 0 => []
  | i + 1 => allN z t i ++ [setS (stepN t (i + 1)) (z.getD i [])]
theorem allN_len (z t : List (List Value)) (i : Nat) : (allN z t i).length = i := by
  induction i with
  | zero => rfl
  | succ i ih => rw [allN, List.length_append, ih]; rfl
def mk4 {α : Type} (z a b c d : α) : Nat → α
  | 0 => a
  | 1 => b
  | 2 => c
  | 3 => d
  | _ + 4 => z
theorem upd0 {α : Type} (z a b c d x : α) : upd (mk4 z a b c d) 0 x = mk4 z x b c d := by funext j; unfold upd; match j with | 0 | 1 | 2 | 3 | _ + 4 => rfl
theorem upd1 {α : Type} (z a b c d x : α) : upd (mk4 z a b c d) 1 x = mk4 z a x c d := by funext j; unfold upd; match j with | 0 | 1 | 2 | 3 | _ + 4 => rfl
theorem upd2 {α : Type} (z a b c d x : α) : upd (mk4 z a b c d) 2 x = mk4 z a b x d := by funext j; unfold upd; match j with | 0 | 1 | 2 | 3 | _ + 4 => rfl
theorem upd3 {α : Type} (z a b c d x : α) : upd (mk4 z a b c d) 3 x = mk4 z a b c x := by funext j; unfold upd; match j with | 0 | 1 | 2 | 3 | _ + 4 => rfl
structure NS (w0 w : World) (g B : Nat) (s : Int) (v : Nat → Value) (l : Nat → List (List Value)) : Prop where
  lg : w.heap[g]? = some (.cells #[v 0, .int .i64 s] 37 (0, 0))
  fam : Fam w g B v l
  be : Below w0.heap.size w0 w
  hb : w0.heap.size ≤ g ∧ w0.heap.size ≤ B ∧ B ≤ w.heap.size
section
variable {w0 w w1 : World} {g B ge : Nat} {s : Int} {v : Nat → Value} {l : Nat → List (List Value)} {v1 : Value} {x : List Value}
theorem NS.below (h : NS w0 w g B s v l) (hb : Below w.heap.size w w1) : NS w0 w1 g B s v l := ⟨blk_below h.lg hb, h.fam.below hb, below_step h.be hb, h.hb.1, h.hb.2.1, Nat.le_trans h.hb.2.2 hb.size⟩
theorem NS.lt (h : NS w0 w g B s v l) : g < w.heap.size := blk_lt h.lg
theorem NS.chgB (h : NS w0 w g B s v l) (i : Nat) (hi : i < 4) (hc : Chg (fun k => k = g ∨ some k = (v i).ownBlock) w w1) : Below w0.heap.size w0 w1 := h.be.trans (hc.toBelow h.be.size (fun k hk hx => by
  rcases hx with hx | hx
  · have := h.hb.1; omega
  · have := h.fam.base i hi k hx.symm; have := h.hb.2.1; omega))
theorem NS.tick (h : NS w0 w g B s v l) (hlg : w1.heap[g]? = some (.cells #[v 0, .int .i64 (s + 1)] 37 (0, 0))) (hc : Chg (fun k => k = g) w w1) : NS w0 w1 g B (s + 1) v l :=
  ⟨hlg, h.fam.tick hc, h.be.trans (hc.toBelow h.be.size (fun k hk hx => by have := h.hb.1; omega)), h.hb.1, h.hb.2.1, Nat.le_trans h.hb.2.2 hc.size⟩
theorem NS.note (h : NS w0 w g B s v l) {l1 : List (List Value)} (hn : NT w w1 g B (fun k => k ≠ g ∧ ∀ j, j < 4 → j ≠ 0 → some k ≠ (v j).ownBlock) (v 0) v1 s l1) : NS w0 w1 g B s (upd v 0 v1) (upd l 0 l1) :=
  ⟨by rw [upd_same]; exact hn.lg, h.fam.app 0 (by omega) hn.ch hn.r hn.nw, h.chgB 0 (by omega) hn.ch, h.hb.1, h.hb.2.1, Nat.le_trans h.hb.2.2 hn.ch.size⟩
theorem NS.app (h : NS w0 w g B s v l) (i : Nat) (hi : i < 4) (h0 : i ≠ 0) {l1 : List (List Value)} (ho : E24.R 31 w1 B (fun k => k ≠ g ∧ ∀ j, j < 4 → j ≠ i → some k ≠ (v j).ownBlock) v1 l1) (hg : w.grownBy w1 (v i).ownBlock) (hat : v1.ownBlock = (v i).ownBlock ∨ ∃ b, v1.ownBlock = some b ∧ w.heap.size ≤ b) : NS w0 w1 g B s (upd v i v1) (upd l i l1) := by
  have hc := h.fam.chg i hg
  exact ⟨by rw [upd_other _ _ _ _ (fun e => h0 e.symm)]; exact (hg.block g h.lt (h.fam.ne i hi)).trans h.lg, h.fam.app i hi hc ho hat, h.chgB i hi hc, h.hb.1, h.hb.2.1, Nat.le_trans h.hb.2.2 hc.size⟩
/-- an event's own cells, apart from the lists -/
structure NE (w : World) (ge : Nat) (e : List Value) (v : Nat → Value) : Prop where
  bk : w.heap[ge]? = some (.cells e.toArray 31 (0, 0))
  far : ∀ j, j < 4 → some ge ≠ (v j).ownBlock
theorem NE.below {e : List Value} (h : NE w ge e v) (hb : Below w.heap.size w w1) : NE w1 ge e v := ⟨blk_below h.bk hb, h.far⟩
theorem NE.app {e : List Value} (h : NE w ge e v) (i : Nat) (hi : i < 4) (hg : w.grownBy w1 (v i).ownBlock) (hat : v1.ownBlock = (v i).ownBlock ∨ ∃ b, v1.ownBlock = some b ∧ w.heap.size ≤ b) : NE w1 ge e (upd v i v1) := by
  refine ⟨(hg.block ge (blk_lt h.bk) (h.far i hi)).trans h.bk, fun j hj => ?_⟩
  by_cases hji : j = i
  · subst hji
    rw [upd_same]
    rcases hat with hat | ⟨b, hb, hle⟩
    · rw [hat]; exact h.far j hj
    · rw [hb]; intro e; injection e with e; have := blk_lt h.bk; omega
  · rw [upd_other _ _ _ _ hji]; exact h.far j hj
end
/-- the three lists' contents -/
def lst (z t : List (List Value)) (a b : Int) (i : Nat) : Nat → List (List Value) := mk4 [] (allN z t i) (allN z t i) ((allN z t i).filter (ofK a b)) ((allN z t i).filter (ofK 2 4))
theorem NS.start (w0 w : World) (g B : Nat) (hlg : w.heap[g]? = some (.cells #[.slice none 0 0, .int .i64 0] 37 (0, 0))) (be : Below w0.heap.size w0 w) (h1 : w0.heap.size ≤ g) (h2 : w0.heap.size ≤ B) (h3 : B ≤ w.heap.size) (z t : List (List Value)) (a b : Int) : NS w0 w g B 0 (mk4 undef (.slice none 0 0) (.slice none 0 0) (.slice none 0 0) (.slice none 0 0)) (lst z t a b 0) := by
  refine ⟨hlg, ⟨fun i hi => ?_⟩, be, h1, h2, h3⟩
  have : i = 0 ∨ i = 1 ∨ i = 2 ∨ i = 3 := by omega
  rcases this with rfl | rfl | rfl | rfl <;> exact Kd.R_nil _ _ _ _ _
end Go.Proofs.Yteeaimbinhmjfaa.Hist
