/- Rows: what a slice reads as; a row at a block of the call's own. No walk in this text. -/
import Derived.Test.YtmjkgnlmdcmdbaaDoorWMore
import Derived.Test.YtmjkgnlmdcmdbaaDoorWKept
import Derived.Laws.MakeOwn
namespace Go.Proofs.YtmjkgnlmdcmdbaaDoor.Row
open Go.RowKit Go.Proofs.YtmjkgnlmdcmdbaaDoorW.PrintWords Go.Proofs.YtmjkgnlmdcmdbaaDoorW.PrintMore
set_option linter.unusedVariables false
section
variable {α : Type} {enc : α → Value} {e : Nat} {w w' : World} {g B : Nat} {xs : List α} {A : Option Addr}
/-- a slice at A reads as a list -/
def Rds (enc : α → Value) (w : World) (A : Option Addr) (xs : List α) : Prop := ∀ j, (hj : j < xs.length) → ∃ ad, A = some ad ∧ w.cell? (ad.add j) = some (enc xs[j])
theorem Rds.at_ (h : Rds enc w A xs) (d : α) (i : Int) (h0 : 0 ≤ i) (h1 : i < xs.length) : ∃ ad, A = some ad ∧ w.cell? (ad.add i.toNat) = some (enc (xs.getD i.toNat d)) := by
  have hj : i.toNat < xs.length := by omega
  obtain ⟨ad, ha, hc⟩ := h i.toNat hj
  refine ⟨ad, ha, ?_⟩
  rw [hc]
  simp [hj]
theorem Rds.rd_ {k : IntKind} {l : List Int} (h : Rds (Value.int k) w A l) (i : Int) (h0 : 0 ≤ i) (h1 : i < l.length) : ∃ ad, A = some ad ∧ w.cell? (ad.add i.toNat) = some (.int k (rd l i)) := by
  have hj : i.toNat < l.length := by omega
  obtain ⟨ad, ha, hc⟩ := h i.toNat hj
  refine ⟨ad, ha, ?_⟩
  rw [hc]
  simp [rd, hj]
theorem Rds.below (h : Rds enc w A xs) (hb : Below w.heap.size w w') : Rds enc w' A xs := fun j hj => by
  obtain ⟨ad, ha, hc⟩ := h j hj
  exact ⟨ad, ha, (hb.cell (World.block_lt_of_cell? w _ hc)).trans hc⟩
theorem Rds.nil : Rds enc w A [] := fun j hj => absurd hj (by simp)
theorem Rds.take (h : Rds enc w A xs) (n : Nat) : Rds enc w A (xs.take n) := fun j hj => by
  have h1 : j < xs.length := by rw [List.length_take] at hj; omega
  obtain ⟨ad, ha, hc⟩ := h j h1
  exact ⟨ad, ha, by rw [hc]; simp⟩
theorem Rds.ofC {k : IntKind} {l : List Int} (h : Kd.C (Kd.int k) w A l.length l) : Rds (Value.int k) w A l := fun j hj => by
  obtain ⟨ad, ha, hc⟩ := Kd.at_int h (j : Int) (by omega) (by omega)
  refine ⟨ad, ha, ?_⟩
  rw [show ((j : Int)).toNat = j by omega] at hc
  rw [hc]
  simp [rd, hj]
/-- at block g lies a row that begins with these -/
def GRow (enc : α → Value) (e : Nat) (w : World) (g : Nat) (xs : List α) : Prop := ∃ cur : Array Value, w.heap[g]? = some (.cells cur e (0, 0)) ∧ ∀ j, (hj : j < xs.length) → cur[j]? = some (enc xs[j])
theorem GRow.cell (h : GRow enc e w g xs) (j : Nat) (hj : j < xs.length) : w.cell? ⟨g, j, none⟩ = some (enc xs[j]) := by
  obtain ⟨cur, h1, h2⟩ := h
  have := blk_cell h1 j
  rw [this]
  exact h2 j hj
theorem GRow.lt (h : GRow enc e w g xs) : g < w.heap.size := by
  obtain ⟨cur, h1, h2⟩ := h
  exact blk_lt h1
theorem GRow.of_heap (h : GRow enc e w g xs) (hh : w'.heap[g]? = w.heap[g]?) : GRow enc e w' g xs := by
  obtain ⟨cur, h1, h2⟩ := h
  exact ⟨cur, hh.trans h1, h2⟩
theorem GRow.below (h : GRow enc e w g xs) (hb : Below B w w') (hB : g < B) : GRow enc e w' g xs := h.of_heap (hb.block g hB)
theorem GRow.far (h : GRow enc e w g xs) (p : Addr) (hp : g ≠ p.block) (u : Value) : GRow enc e (w.setCell p u) g xs := h.of_heap (Below.heap_setCell w p u g hp)
theorem GRow.alloc (h : GRow enc e w g xs) (o : Obj) : GRow enc e (w.alloc o) g xs := h.of_heap (Below.heap_alloc w o g h.lt)
theorem GRow.drew (h : GRow enc e w g xs) : GRow enc e w.drew g xs := h
theorem GRow.set (h : GRow enc e w g xs) (j : Nat) (v : α) : GRow enc e (w.setCell ⟨g, j, none⟩ (enc v)) g (xs.set j v) := by
  obtain ⟨cur, h1, h2⟩ := h
  refine ⟨_, blk_set h1 j (enc v), fun i hi => ?_⟩
  rw [List.length_set] at hi
  have := h2 i hi
  rw [Array.getElem?_setIfInBounds]
  by_cases hij : j = i
  · subst hij
    have hs : j < cur.size := by
      have := Array.getElem?_eq_some_iff.1 this
      exact this.1
    simp [hs]
  · rw [if_neg hij, this]
    simp [hij]
theorem GRow.rds (h : GRow enc e w g xs) : Rds enc w (some ⟨g, 0, none⟩) xs := fun j hj => ⟨⟨g, 0, none⟩, rfl, by
  have := h.cell j hj
  rw [← this]
  congr 1
  unfold Addr.add
  split
  · rename_i h0; subst h0; rfl
  · simp⟩
theorem GRow.new (w : World) (cs : Array Value) (h : ∀ j, (hj : j < xs.length) → cs[j]? = some (enc xs[j])) : GRow enc e (w.alloc (.cells cs e)) w.heap.size xs := ⟨cs, blk_new w _, h⟩
end
end Go.Proofs.YtmjkgnlmdcmdbaaDoor.Row
