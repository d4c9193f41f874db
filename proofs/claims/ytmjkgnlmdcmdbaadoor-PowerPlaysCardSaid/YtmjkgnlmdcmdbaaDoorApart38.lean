/- pick.apart: two ranges over Each. -/
import Derived.Test.YtmjkgnlmdcmdbaaDoorEach2
import Derived.RegionIn
namespace Go.Proofs.YtmjkgnlmdcmdbaaDoor.Pick
open Go.RowKit Go.Shelf Go.Proofs.YtmjkgnlmdcmdbaaDoorW.PrintWords Go.Proofs.YtmjkgnlmdcmdbaaDoorW.PrintMore Go.Proofs.YtmjkgnlmdcmdbaaDoor.Sets Go.Proofs.YtmjkgnlmdcmdbaaDoor.Each
set_option linter.unusedVariables false
set_option linter.unusedSimpArgs false
attribute [local go_sem] Oper.semAt_some
/-- apart's boxes: the number, the set, the last one -/
structure AI (w W : World) (b : Nat) (n : Int) (o : Nat) (la : Int) : Prop where
  c0 : W.cell? ⟨b, 0, none⟩ = some (.int .i64 n)
  c1 : W.cell? ⟨b + 1, 0, none⟩ = some (.int .u64 o)
  c2 : W.cell? ⟨b + 1 + 1, 0, none⟩ = some (.int .i64 la)
  f1 : W.frozen? ⟨b + 1, 0, none⟩ = false
  f2 : W.frozen? ⟨b + 1 + 1, 0, none⟩ = false
  be : Below w.heap.size w W
  bb : w.heap.size = b
section
variable {w W W' : World} {b : Nat} {n la : Int} {o : Nat}
theorem AI.putObj (h : AI w W b n o la) (l : Nat) (x : Obj) (hl : b + 1 + 1 < l) : AI w (W.putObj l x) b n o la := by
  have e : ∀ k, k ≤ b + 1 + 1 → (W.putObj l x).heap[k]? = W.heap[k]? := fun k hk => World.putObj_heap_other (by omega)
  have hs := h.be.size
  have hb := h.bb
  exact ⟨(World.cell?_of_block (e b (by omega))).trans h.c0, (World.cell?_of_block (e (b + 1) (by omega))).trans h.c1, (World.cell?_of_block (e (b + 1 + 1) (by omega))).trans h.c2,
    (World.frozen?_of_block (e (b + 1) (by omega))).trans h.f1, (World.frozen?_of_block (e (b + 1 + 1) (by omega))).trans h.f2, h.be.grown (grownBy_putObj' W l x) hs (fun k ek => by cases ek; omega), hb⟩
theorem AI.below (h : AI w W b n o la) (hb : Below W.heap.size W W') : AI w W' b n o la :=
  ⟨(hb.cell (p := ⟨b, 0, none⟩) (World.block_lt_of_cell? W _ h.c0)).trans h.c0, (hb.cell (p := ⟨b + 1, 0, none⟩) (World.block_lt_of_cell? W _ h.c1)).trans h.c1, (hb.cell (p := ⟨b + 1 + 1, 0, none⟩) (World.block_lt_of_cell? W _ h.c2)).trans h.c2,
    (World.frozen?_of_block (a := ⟨b + 1, 0, none⟩) (hb.block _ (World.block_lt_of_cell? W _ h.c1))).trans h.f1, (World.frozen?_of_block (a := ⟨b + 1 + 1, 0, none⟩) (hb.block _ (World.block_lt_of_cell? W _ h.c2))).trans h.f2, h.be.trans (hb.mono h.be.size), h.bb⟩
theorem AI.lt (h : AI w W b n o la) : b + 1 + 1 < W.heap.size := World.block_lt_of_cell? W _ h.c2
theorem AI.new (w : World) (n : Int) : AI w (((w.alloc (.cells #[.int .i64 n] 3)).alloc (.cells #[.int .u64 0] 23)).alloc (.cells #[.int .i64 (-2)] 3)) w.heap.size n 0 (-2) := by
  have h0 := blk_new w (.cells #[.int .i64 n] 3)
  have h1 := blk_new (w.alloc (.cells #[.int .i64 n] 3)) (.cells #[.int .u64 0] 23)
  have h2 := blk_new ((w.alloc (.cells #[.int .i64 n] 3)).alloc (.cells #[.int .u64 0] 23)) (.cells #[.int .i64 (-2)] 3)
  rw [World.size_alloc] at h1
  rw [World.size_alloc, World.size_alloc] at h2
  have h0' := blk_alloc (blk_alloc h0 (.cells #[.int .u64 0] 23)) (.cells #[.int .i64 (-2)] 3)
  have h1' := blk_alloc h1 (.cells #[.int .i64 (-2)] 3)
  exact ⟨(blk_cell h0' 0).trans rfl, (blk_cell h1' 0).trans rfl, (blk_cell h2 0).trans rfl, blk_frozen h1' 0, blk_frozen h2 0, below_alloc (below_alloc (below_alloc (Below.refl w.heap.size w) _) _) _, rfl⟩
theorem AI.drew (h : AI w W b n o la) : AI w W.drew b n o la := ⟨h.c0, h.c1, h.c2, h.f1, h.f2, below_drew h.be, h.bb⟩
end
theorem vals_at (s k : Nat) (v : Value) (h : (vals s)[k]? = some v) : ∃ x : Nat, v = .int .i64 (x : Int) ∧ (nodes s).getD k 0 = x ∧ x < 64 ∧ k < lenS s := by
  unfold vals at h
  rw [List.getElem?_map] at h
  cases hk : (nodes s)[k]? with
  | none => rw [hk] at h; cases h
  | some x =>
    rw [hk] at h
    injection h with h
    refine ⟨x, h.symm, ?_, nodes_lt s x (List.mem_of_getElem? hk), (List.getElem?_eq_some_iff.1 hk).1⟩
    rw [List.getD_eq_getElem?_getD, hk]
    rfl
theorem nodes_at_lt (s k : Nat) : (nodes s).getD k 0 < 64 := by
  rw [List.getD_eq_getElem?_getD]
  cases hk : (nodes s)[k]? with
  | none => decide
  | some x => exact nodes_lt s x (List.mem_of_getElem? hk)
end Go.Proofs.YtmjkgnlmdcmdbaaDoor.Pick
