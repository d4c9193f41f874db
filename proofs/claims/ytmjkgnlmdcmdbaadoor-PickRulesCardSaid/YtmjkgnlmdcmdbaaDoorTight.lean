/- PickTight: by the rule of rows nothing that is picked lies further apart than it must, if there is a row that is long enough: for every set and every number. -/
import Derived.Test.YtmjkgnlmdcmdbaaDoorPick38
import Derived.Test.YtmjkgnlmdcmdbaaDoorSetNodes
import Derived.Test.YtmjkgnlmdcmdbaaDoorSetFirsts
namespace Go.Proofs.YtmjkgnlmdcmdbaaDoor.Pick
open Go.RowKit Go.Proofs.YtmjkgnlmdcmdbaaDoorW.PrintWords Go.Proofs.YtmjkgnlmdcmdbaaDoorW.PrintLast Go.Proofs.YtmjkgnlmdcmdbaaDoorW.PrintMore Go.Proofs.YtmjkgnlmdcmdbaaDoor.Row Go.Proofs.YtmjkgnlmdcmdbaaDoor.Sets
set_option linter.unusedVariables false
set_option linter.unusedSimpArgs false
theorem nodes_rise (s : Nat) : (nodes s).Pairwise (· < ·) := List.pairwise_lt_range.filter _
theorem rise_eq : ∀ (l1 l2 : List Nat), l1.Pairwise (· < ·) → l2.Pairwise (· < ·) → (∀ i, i ∈ l1 ↔ i ∈ l2) → l1 = l2
  | [], [], _, _, _ => rfl
  | [], y :: l2, _, _, h => by have := (h y).2 List.mem_cons_self; cases this
  | x :: l1, [], _, _, h => by have := (h x).1 List.mem_cons_self; cases this
  | x :: l1, y :: l2, h1, h2, h => by
    obtain ⟨a1, b1⟩ := List.pairwise_cons.1 h1
    obtain ⟨a2, b2⟩ := List.pairwise_cons.1 h2
    have e : x = y := by
      rcases List.mem_cons.1 ((h x).1 List.mem_cons_self) with e | e
      · exact e
      · rcases List.mem_cons.1 ((h y).2 List.mem_cons_self) with e2 | e2
        · exact e2.symm
        · have := a2 x e; have := a1 y e2; omega
    subst e
    rw [rise_eq l1 l2 b1 b2 (fun i => by
      constructor
      · intro hi
        rcases List.mem_cons.1 ((h i).1 (List.mem_cons_of_mem _ hi)) with e | e
        · subst e; have := a1 i hi; omega
        · exact e
      · intro hi
        rcases List.mem_cons.1 ((h i).2 (List.mem_cons_of_mem _ hi)) with e | e
        · subst e; have := a2 i hi; omega
        · exact e)]
theorem range_rise : ∀ (m a : Nat), (List.range' a m).Pairwise (· < ·)
  | 0, a => List.Pairwise.nil
  | m + 1, a => by
    show (a :: List.range' (a + 1) m).Pairwise (· < ·)
    refine List.pairwise_cons.2 ⟨fun i hi => ?_, range_rise m (a + 1)⟩
    rw [List.mem_range'] at hi
    obtain ⟨q, hq, rfl⟩ := hi
    omega
theorem range_take : ∀ (q m a : Nat), q ≤ m → (List.range' a m).take q = List.range' a q
  | 0, m, a, _ => by simp
  | q + 1, 0, a, h => absurd h (by omega)
  | q + 1, m + 1, a, h => by
    show (a :: List.range' (a + 1) m).take (q + 1) = a :: List.range' (a + 1) q
    rw [List.take_succ_cons, range_take q m (a + 1) (by omega)]
theorem nodes_row (a m : Nat) (h : a + m ≤ 64) : nodes (rowSet (a, m)) = List.range' a m := by
  refine rise_eq _ _ (nodes_rise _) (range_rise m a) fun i => ?_
  unfold rowSet
  rw [mem_nodes, mk_bit, decide_eq_true_iff]
  refine ⟨fun h => h.2, fun h2 => ⟨?_, h2⟩⟩
  rw [List.mem_range'] at h2
  obtain ⟨q, hq, rfl⟩ := h2
  omega
theorem lenS_row (p : Nat × Nat) (h : p.1 + p.2 ≤ 64) : lenS (rowSet p) = p.2 := by
  unfold lenS
  rw [nodes_row p.1 p.2 h, List.length_range']
end Go.Proofs.YtmjkgnlmdcmdbaaDoor.Pick
