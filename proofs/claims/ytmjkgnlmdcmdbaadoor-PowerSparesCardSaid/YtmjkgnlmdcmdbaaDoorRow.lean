/- Rows: what a slice reads as; a row at a block of the call's own. No walk in this text. -/
import Derived.Test.YtmjkgnlmdcmdbaaDoorWMore
import Derived.Test.YtmjkgnlmdcmdbaaDoorWKept
import Derived.Laws.MakeOwn
namespace Go.Proofs.YtmjkgnlmdcmdbaaDoor.Row
open Go.RowKit Go.Proofs.YtmjkgnlmdcmdbaaDoorW.PrintWords Go.Proofs.YtmjkgnlmdcmdbaaDoorW.PrintMore
set_option linter.unusedVariables false
section
variable {α : Type} {enc : α → Value} {e : Nat} {w w' : World} {g B : Nat} {xs : List α} {A : Option Addr}
/-- a slice at A reads as a list -/
def Rds (enc : α → Value) (w : World) (A : Option Addr) (xs : List α) : Prop := ∀ j, (hj : j < xs.length) → ∃ ad, A = some ad ∧ w.cell? (ad.add j) = some (enc xs[j])
theorem Rds.at_ (h : Rds enc w A xs) (d : α) (i : Int) (h0 : 0 ≤ i) (h1 : i < xs.length) : ∃ ad, A = some ad ∧ w.cell? (ad.add i.toNat) = some (enc (xs.getD i.toNat d)) := by
  have hj : i.toNat < xs.length := by omega
  obtain ⟨ad, ha, hc⟩ := h i.toNat hj
  refine ⟨ad, ha, ?_⟩
  rw [hc]
  simp [hj]
theorem Rds.rd_ {k : IntKind} {l : List Int} (h : Rds (Value.int k) w A l) (i : Int) (h0 : 0 ≤ i) (h1 : i < l.length) : ∃ ad, A = some ad ∧ w.cell? (ad.add i.toNat) = some (.int k (rd l i)) := by
  have hj : i.toNat < l.length := by omega
  obtain ⟨ad, ha, hc⟩ := h i.toNat hj
  refine ⟨ad, ha, ?_⟩
  rw [hc]
  simp [rd, hj]
theorem block_add (a : Addr) (n : Nat) : (a.add n).block = a.block := by unfold Addr.add; split <;> rfl
theorem Rds.below (h : Rds enc w A xs) (hb : Below w.heap.size w w') : Rds enc w' A xs := fun j hj => by
  obtain ⟨ad, ha, hc⟩ := h j hj
  exact ⟨ad, ha, (hb.cell (World.block_lt_of_cell? w _ hc)).trans hc⟩
theorem Rds.nil : Rds enc w A [] := fun j hj => absurd hj (by simp)
theorem Rds.take (h : Rds enc w A xs) (n : Nat) : Rds enc w A (xs.take n) := fun j hj => by
  have h1 : j < xs.length := by rw [List.length_take] at hj; omega
  obtain ⟨ad, ha, hc⟩ := h j h1
  exact ⟨ad, ha, by rw [hc]; simp⟩
theorem Rds.ofC {k : IntKind} {l : List Int} (h : Kd.C (Kd.int k) w A l.length l) : Rds (Value.int k) w A l := fun j hj => by
  obtain ⟨ad, ha, hc⟩ := Kd.at_int h (j : Int) (by omega) (by omega)
  refine ⟨ad, ha, ?_⟩
  rw [show ((j : Int)).toNat = j by omega] at hc
  rw [hc]
  simp [rd, hj]
/-- at block g lies a row that begins with these -/
def GRow (enc : α → Value) (e : Nat) (w : World) (g : Nat) (xs : List α) : Prop := ∃ cur : Array Value, w.heap[g]? = some (.cells cur e (0, 0)) ∧ ∀ j, (hj : j < xs.length) → cur[j]? = some (enc xs[j])
theorem GRow.cell (h : GRow enc e w g xs) (j : Nat) (hj : j < xs.length) : w.cell? ⟨g, j, none⟩ = some (enc xs[j]) := by
  obtain ⟨cur, h1, h2⟩ := h
  have := blk_cell h1 j
  rw [this]
  exact h2 j hj
theorem GRow.soft (h : GRow enc e w g xs) (j : Nat) : w.frozen? ⟨g, j, none⟩ = false := by
  obtain ⟨cur, h1, h2⟩ := h
  exact blk_frozen h1 j
theorem GRow.lt (h : GRow enc e w g xs) : g < w.heap.size := by
  obtain ⟨cur, h1, h2⟩ := h
  exact blk_lt h1
theorem GRow.of_heap (h : GRow enc e w g xs) (hh : w'.heap[g]? = w.heap[g]?) : GRow enc e w' g xs := by
  obtain ⟨cur, h1, h2⟩ := h
  exact ⟨cur, hh.trans h1, h2⟩
theorem GRow.below (h : GRow enc e w g xs) (hb : Below B w w') (hB : g < B) : GRow enc e w' g xs := h.of_heap (hb.block g hB)
theorem GRow.far (h : GRow enc e w g xs) (p : Addr) (hp : g ≠ p.block) (u : Value) : GRow enc e (w.setCell p u) g xs := h.of_heap (Below.heap_setCell w p u g hp)
theorem GRow.alloc (h : GRow enc e w g xs) (o : Obj) : GRow enc e (w.alloc o) g xs := h.of_heap (Below.heap_alloc w o g h.lt)
theorem GRow.drew (h : GRow enc e w g xs) : GRow enc e w.drew g xs := h
theorem GRow.set (h : GRow enc e w g xs) (j : Nat) (v : α) : GRow enc e (w.setCell ⟨g, j, none⟩ (enc v)) g (xs.set j v) := by
  obtain ⟨cur, h1, h2⟩ := h
  refine ⟨_, blk_set h1 j (enc v), fun i hi => ?_⟩
  rw [List.length_set] at hi
  have := h2 i hi
  rw [Array.getElem?_setIfInBounds]
  by_cases hij : j = i
  · subst hij
    have hs : j < cur.size := by
      have := Array.getElem?_eq_some_iff.1 this
      exact this.1
    simp [hs]
  · rw [if_neg hij, this]
    simp [hij]
theorem GRow.rds (h : GRow enc e w g xs) : Rds enc w (some ⟨g, 0, none⟩) xs := fun j hj => ⟨⟨g, 0, none⟩, rfl, by
  have := h.cell j hj
  rw [← this]
  congr 1
  unfold Addr.add
  split
  · rename_i h0; subst h0; rfl
  · simp⟩
theorem GRow.new (w : World) (cs : Array Value) (h : ∀ j, (hj : j < xs.length) → cs[j]? = some (enc xs[j])) : GRow enc e (w.alloc (.cells cs e)) w.heap.size xs := ⟨cs, blk_new w _, h⟩
theorem GRow.of_own {base n : Nat} {v : Value} (h : w.ownsRow base e 1 v n (xs.map enc)) (hp : 0 < xs.length) : ∃ g cap, v = .slice (some ⟨g, 0, none⟩) n cap ∧ n ≤ cap ∧ base ≤ g ∧ n = xs.length ∧ GRow enc e w g xs := by
  obtain ⟨h1, h2⟩ := h
  rw [List.length_map, Nat.mul_one] at h1
  rcases h2 with ⟨_, h0⟩ | ⟨g, cap, cur, rfl, hb, hg, hn, hm, hs, ht⟩
  · omega
  · refine ⟨g, cap, rfl, hn, hb, h1.symm, cur, hg, fun j hj => ?_⟩
    have h3 : (xs.map enc)[j]? = some (enc xs[j]) := by simp [hj]
    rw [← ht, List.getElem?_take_of_lt (by omega)] at h3
    rw [← h3]
    simp
end
theorem run_make_int {P : Program} (t e : TypeId) (i : TypeInfo) (z : Value) (ht : P.underlying t = some (.slice e)) (hi : P.info? e = some i) (hz : i.zero = some z) (hs : i.size = 1) (hzc : z.cells = #[z]) (n : Nat) (hb : i.bytes * n ≤ 281474976710656) (hn : n ≤ 4611686018427387904) (w : World) :
    (Instr.makeSlice t (.int .i64 n) (.int .i64 n)).run P w = .ok (.slice (some ⟨w.heap.size, 0, none⟩) n n) (w.alloc (.cells (Array.replicate n z) e)) := by
  have hb' : (i.bytes : Int) * (n : Int) ≤ 281474976710656 := by
    have h : ((i.bytes * n : Nat) : Int) ≤ 281474976710656 := by omega
    rwa [Int.natCast_mul] at h
  have h := run_make (P := P) w t e i z ht hi hz .i64 .i64 (n : Int) (n : Int) (by omega) (by omega) hb' (by omega)
  have e2 : madeCells z.cells n = Array.replicate n z := by
    rw [hzc]
    apply Array.ext
    · simp [madeCells]
    · intro k h1 h2
      simp [madeCells, Nat.mod_one]
  rw [hs, Nat.mul_one, Int.toNat_natCast, e2] at h
  exact h
end Go.Proofs.YtmjkgnlmdcmdbaaDoor.Row
