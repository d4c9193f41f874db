/- Package node, by hand walks. -/
import Derived.Test.YtmjkgnlmdcmdbaaDoorSetFirsts
import Derived.RegionTactic
import Derived.Deep.RegionWith
import Derived.Deep.RegionHeld3
namespace Go.Proofs.YtmjkgnlmdcmdbaaDoor.Node
open Go.RowKit Go.Proofs.YtmjkgnlmdcmdbaaDoorW.PrintWords Go.Proofs.YtmjkgnlmdcmdbaaDoorW.PrintLast Go.Proofs.YtmjkgnlmdcmdbaaDoorW.PrintMore Go.Proofs.YtmjkgnlmdcmdbaaDoor.Row Go.Proofs.YtmjkgnlmdcmdbaaDoor.Sets
set_option linter.unusedVariables false
set_option linter.unusedSimpArgs false
/-- what is in the one, not in the other -/
def minus (a b : Nat) : Nat := a &&& (18446744073709551615 - b)
theorem minus_lt (a b : Nat) (h : a < 18446744073709551616) : minus a b < 18446744073709551616 := Nat.lt_of_le_of_lt Nat.and_le_left h
theorem minus_bit (a b i : Nat) (hb : b < 18446744073709551616) (hi : i < 64) : (minus a b).testBit i = (a.testBit i && !b.testBit i) := by
  unfold minus
  have h := Nat.testBit_two_pow_sub_succ (x := b) (n := 64) (by omega) i
  have e : 2 ^ 64 - (b + 1) = 18446744073709551615 - b := by omega
  rw [e] at h
  rw [Nat.testBit_and, h]
  simp [hi]
theorem minus_val (a b : Nat) (ha : a < 18446744073709551616) (hb : b < 18446744073709551616) : bits .andNot .u64 (a : Int) (b : Int) = (minus a b : Nat) := u64_andNot_nat a b ha hb
/-- the table at block b: all nodes, those that someone has, those that are drained -/
structure NT (w : World) (b : Nat) (a u d : Nat) : Prop where
  c0 : w.cell? ⟨b, 0, none⟩ = some (.int .u64 a)
  c1 : w.cell? ⟨b, 1, none⟩ = some (.int .u64 u)
  c2 : w.cell? ⟨b, 2, none⟩ = some (.int .u64 d)
  f0 : w.frozen? ⟨b, 0, none⟩ = false
  f1 : w.frozen? ⟨b, 1, none⟩ = false
  f2 : w.frozen? ⟨b, 2, none⟩ = false
theorem NT.lt {w : World} {b a u d : Nat} (h : NT w b a u d) : b < w.heap.size := World.block_lt_of_cell? w _ h.c0
theorem NT.of_heap {w w' : World} {b a u d : Nat} (h : NT w b a u d) (hh : w'.heap[b]? = w.heap[b]?) : NT w' b a u d :=
  ⟨(World.cell?_of_block hh).trans h.c0, (World.cell?_of_block hh).trans h.c1, (World.cell?_of_block hh).trans h.c2, (World.frozen?_of_block hh).trans h.f0, (World.frozen?_of_block hh).trans h.f1, (World.frozen?_of_block hh).trans h.f2⟩
theorem NT.below {w w' : World} {b a u d B : Nat} (h : NT w b a u d) (hb : Below B w w') (hl : b < B) : NT w' b a u d := h.of_heap (hb.block b hl)
theorem NT.drew {w : World} {b a u d : Nat} (h : NT w b a u d) : NT w.drew b a u d := h.of_heap rfl
theorem NT.alloc {w : World} {b a u d : Nat} (h : NT w b a u d) (o : Obj) : NT (w.alloc o) b a u d := h.of_heap (Below.heap_alloc w o b h.lt)
theorem NT.far {w : World} {b a u d : Nat} (h : NT w b a u d) (p : Addr) (hp : b ≠ p.block) (v : Value) : NT (w.setCell p v) b a u d := h.of_heap (Below.heap_setCell w p v b hp)
theorem NT.new (w : World) (a u d : Nat) : NT (w.alloc (.cells #[.int .u64 a, .int .u64 u, .int .u64 d] 64)) w.heap.size a u d := by
  have hb := blk_new w (.cells #[.int .u64 a, .int .u64 u, .int .u64 d] 64)
  exact ⟨(blk_cell hb 0).trans rfl, (blk_cell hb 1).trans rfl, (blk_cell hb 2).trans rfl, blk_frozen hb 0, blk_frozen hb 1, blk_frozen hb 2⟩
theorem NT.set1 {w : World} {b a u d : Nat} (h : NT w b a u d) (v : Nat) : NT (w.setCell ⟨b, 1, none⟩ (.int .u64 v)) b a v d := by
  obtain ⟨c0, c1, c2, f0, f1, f2⟩ := h
  exact ⟨by go_cell, by go_cell, by go_cell, by simp [go_sem, f0], by simp [go_sem, f1], by simp [go_sem, f2]⟩
theorem NT.set2 {w : World} {b a u d : Nat} (h : NT w b a u d) (v : Nat) : NT (w.setCell ⟨b, 2, none⟩ (.int .u64 v)) b a u v := by
  obtain ⟨c0, c1, c2, f0, f1, f2⟩ := h
  exact ⟨by go_cell, by go_cell, by go_cell, by simp [go_sem, f0], by simp [go_sem, f1], by simp [go_sem, f2]⟩
/-- only block b has changed, of what was there -/
def Upd (b : Nat) (w w' : World) : Prop := Kept w w' (fun i => i = b) ∧ Below b w w'
theorem Upd.refl (b : Nat) (w : World) : Upd b w w := ⟨Kept.refl _ _, Below.refl _ _⟩
theorem Upd.of_below {b : Nat} {w w' : World} (h : Below w.heap.size w w') (hb : b ≤ w.heap.size) : Upd b w w' := ⟨Kept.of_below h _, h.mono hb⟩
theorem Upd.trans {b : Nat} {w w1 w2 : World} (h : Upd b w w1) (k : Upd b w1 w2) : Upd b w w2 := ⟨h.1.then_ k.1 (fun i hi => .inl hi), h.2.trans k.2⟩
theorem Upd.setCell {b : Nat} {w w1 : World} (h : Upd b w w1) (o : Nat) (v : Value) : Upd b w (w1.setCell ⟨b, o, none⟩ v) := ⟨h.1.setCell (p := ⟨b, o, none⟩) (.inl rfl) v, h.2.setCell (Nat.le_refl _) v⟩
theorem Upd.drew {b : Nat} {w w1 : World} (h : Upd b w w1) (hb : b ≤ w1.heap.size) : Upd b w w1.drew := h.trans (Upd.of_below (below_drew (Below.refl _ _)) hb)
end Go.Proofs.YtmjkgnlmdcmdbaaDoor.Node
