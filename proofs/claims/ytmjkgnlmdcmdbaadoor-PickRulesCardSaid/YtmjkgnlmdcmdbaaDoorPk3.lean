/- The rule of rows, plain: what is picked is the beginning of the law's tight row, or the first ones. -/
import Derived.Test.YtmjkgnlmdcmdbaaDoorPk2
import Derived.Test.YtmjkgnlmdcmdbaaDoorNodeBack
namespace Go.Proofs.YtmjkgnlmdcmdbaaDoor.Pick
open Go.RowKit Go.Proofs.YtmjkgnlmdcmdbaaDoorW.PrintWords Go.Proofs.YtmjkgnlmdcmdbaaDoorW.PrintLast Go.Proofs.YtmjkgnlmdcmdbaaDoorW.PrintMore Go.Proofs.YtmjkgnlmdcmdbaaDoor.Row Go.Proofs.YtmjkgnlmdcmdbaaDoor.Sets Go.Proofs.YtmjkgnlmdcmdbaaDoor.Node
set_option linter.unusedVariables false
set_option linter.unusedSimpArgs false
theorem lenS_zero : lenS 0 = 0 := by unfold lenS; rw [nodes_zero]; rfl
theorem rowBest_tb (n : Int) (L : List (Nat × Nat)) (hL : ∀ p ∈ L, p.1 + p.2 ≤ 64) (h1 : 1 ≤ n) : ∀ k, k ≤ L.length → (tb L n k < 0 → rowBest n (L.map rowSet) k = 0) ∧ (0 ≤ tb L n k → rowBest n (L.map rowSet) k = rowSet (L.getD (tb L n k).toNat (0, 0)))
  | 0, _ => ⟨fun _ => rfl, fun h => by simp [tb] at h⟩
  | k + 1, hk => by
    have ih := rowBest_tb n L hL h1 k (by omega)
    have hti := tb_in L n k
    have hmem : L.getD k (0, 0) ∈ L := by
      rw [List.getD_eq_getElem?_getD, List.getElem?_eq_getElem (by omega)]; exact List.getElem_mem _
    have hX : (L.map rowSet).getD k 0 = rowSet (L.getD k (0, 0)) := by
      rw [List.getD_eq_getElem?_getD, List.getElem?_map, List.getD_eq_getElem?_getD, List.getElem?_eq_getElem (by omega)]; rfl
    have hl := lenS_row (L.getD k (0, 0)) (hL _ hmem)
    rw [tb, rowBest, hX, rowStep, hl]
    by_cases hb : tb L n k < 0
    · rw [ih.1 hb]
      by_cases hr : n ≤ ((L.getD k (0, 0)).2 : Int)
      · rw [if_pos ⟨hr, .inl hb⟩, if_pos ⟨hr, .inl rfl⟩]
        exact ⟨fun h => by omega, fun _ => by rw [Int.toNat_natCast]⟩
      · rw [if_neg (fun h => hr h.1), if_neg (fun h => hr h.1)]
        exact ⟨fun _ => rfl, fun h => by omega⟩
    · have hb0 : 0 ≤ tb L n k := by omega
      have hmem2 : L.getD (tb L n k).toNat (0, 0) ∈ L := by
        rw [List.getD_eq_getElem?_getD, List.getElem?_eq_getElem (by omega)]; exact List.getElem_mem _
      have hl2 := lenS_row (L.getD (tb L n k).toNat (0, 0)) (hL _ hmem2)
      have hn2 := hti.2.2 hb0
      have hne : rowSet (L.getD (tb L n k).toNat (0, 0)) ≠ 0 := fun e => by rw [e, lenS_zero] at hl2; omega
      rw [ih.2 hb0, hl2]
      by_cases hr : n ≤ ((L.getD k (0, 0)).2 : Int) ∧ (L.getD k (0, 0)).2 < (L.getD (tb L n k).toNat (0, 0)).2
      · rw [if_pos ⟨hr.1, .inr hr.2⟩, if_pos ⟨hr.1, .inr hr.2⟩]
        exact ⟨fun h => by omega, fun _ => by rw [Int.toNat_natCast]⟩
      · rw [if_neg (fun h => hr ⟨h.1, h.2.resolve_left hb⟩), if_neg (fun h => hr ⟨h.1, h.2.resolve_left hne⟩)]
        exact ⟨fun h => absurd h hb, fun _ => rfl⟩
theorem rows_sub : ∀ (L : List (Nat × Nat)) (l : List Nat), RowsOf l L → ∀ p ∈ L, ∀ i, p.1 ≤ i → i < p.1 + p.2 → i ∈ l
  | [], _, _, p, hp, _, _, _ => by cases hp
  | q :: L, l, h, p, hp, i, h1, h2 => by
    obtain ⟨_, r, rfl, _, hr⟩ := h
    rw [List.mem_append]
    rcases List.mem_cons.1 hp with rfl | hp
    · exact .inl (List.mem_range'_1.2 ⟨h1, h2⟩)
    · exact .inr (rows_sub L r hr p hp i h1 h2)
theorem rowPick_tgt (s : Nat) (n : Int) (L : List (Nat × Nat)) (hro : RowsOf (nodes s) L) (hL : ∀ p ∈ L, p.1 + p.2 ≤ 64) (h1 : 1 ≤ n) :
    (tgtB L n = false → rowPick s n L = firstS s n) ∧ (tgtB L n = true → ∃ a : Nat, tgtV L n = (a : Int) ∧ a + n.toNat ≤ 64 ∧ (∀ i ∈ List.range' a n.toNat, i ∈ nodes s) ∧ rowPick s n L = mk (List.range' a n.toNat)) := by
  have hb := rowBest_tb n L hL h1 L.length (Nat.le_refl _)
  have hti := tb_in L n L.length
  unfold tgtB tgtV rowPick
  constructor
  · intro h
    have hneg : tb L n L.length < 0 := by have := of_decide_eq_false h; omega
    rw [hb.1 hneg, if_pos rfl]
  · intro h
    have h0 : 0 ≤ tb L n L.length := of_decide_eq_true h
    have hmem : L.getD (tb L n L.length).toNat (0, 0) ∈ L := by
      rw [List.getD_eq_getElem?_getD, List.getElem?_eq_getElem (by omega)]; exact List.getElem_mem _
    have hn2 := hti.2.2 h0
    have hlp := hL _ hmem
    have hsub := rows_sub L (nodes s) hro _ hmem
    rw [hb.2 h0, if_neg (by omega)]
    generalize L.getD (tb L n L.length).toNat (0, 0) = p at hmem hn2 hlp hsub ⊢
    have hlen := lenS_row p hlp
    have hne : rowSet p ≠ 0 := fun e => by rw [e, lenS_zero] at hlen; omega
    rw [if_neg hne]
    refine ⟨p.1, rfl, by omega, fun i hi => ?_, ?_⟩
    · obtain ⟨a1, a2⟩ := List.mem_range'_1.1 hi
      exact hsub i a1 (by omega)
    · unfold firstS
      rw [if_neg (by rw [hlen]; omega), show rowSet p = rowSet (p.1, p.2) from rfl, nodes_row p.1 p.2 hlp, range_take _ _ _ (by omega)]
/-- what is asked of any nodes picked: the set of so many of those that are idle -/
theorem want_ok (s : Nat) (hs : s < 18446744073709551616) (W : List Nat) (hW : ∀ i ∈ W, i ∈ nodes s) (nd : W.Nodup) : ofS (Sets.nums W) = mk W ∧ lenS (mk W) = W.length ∧ minus (mk W) s = 0 ∧ mk W < 18446744073709551616 := by
  have h64 : ∀ i ∈ W, i < 64 := fun i hi => nodes_lt s i (hW i hi)
  refine ⟨of_nums W h64, lenS_mk W h64 nd, minus_zero _ _ hs (mk_lt _ h64) fun i hi hb => ?_, mk_lt _ h64⟩
  rw [mk_bit] at hb
  exact ((mem_nodes s i).1 (hW i (of_decide_eq_true hb))).2
end Go.Proofs.YtmjkgnlmdcmdbaaDoor.Pick
