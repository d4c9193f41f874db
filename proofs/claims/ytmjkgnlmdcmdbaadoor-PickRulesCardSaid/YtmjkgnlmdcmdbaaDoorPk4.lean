/- The rule of gaps, plain: the set that is picked is that of the law's list. -/
import Derived.Test.YtmjkgnlmdcmdbaaDoorPk3
namespace Go.Proofs.YtmjkgnlmdcmdbaaDoor.Pick
open Go.RowKit Go.Proofs.YtmjkgnlmdcmdbaaDoorW.PrintWords Go.Proofs.YtmjkgnlmdcmdbaaDoorW.PrintLast Go.Proofs.YtmjkgnlmdcmdbaaDoorW.PrintMore Go.Proofs.YtmjkgnlmdcmdbaaDoor.Row Go.Proofs.YtmjkgnlmdcmdbaaDoor.Sets
set_option linter.unusedVariables false
set_option linter.unusedSimpArgs false
def lastN (O : List Nat) : Nat := O.getD (O.length - 1) 0
/-- those with gaps, and those that are left, of the first so many -/
def apL (l : List Nat) (n : Int) : Nat → List Nat × List Nat
  | 0 => ([], [])
  | i + 1 => if ((apL l n i).1.length : Int) < n ∧ ((apL l n i).1.length = 0 ∨ lastN (apL l n i).1 + 1 < l.getD i 0) then ((apL l n i).1 ++ [l.getD i 0], (apL l n i).2) else ((apL l n i).1, (apL l n i).2 ++ [l.getD i 0])
def apW (l : List Nat) (n : Int) : List Nat := (apL l n l.length).1 ++ (apL l n l.length).2.take (n.toNat - (apL l n l.length).1.length)
theorem filt1 (p : Nat → Bool) (x : Nat) (h : p x = true) : [x].filter p = [x] := by rw [List.filter_cons_of_pos h, List.filter_nil]
theorem filt0 (p : Nat → Bool) (x : Nat) (h : p x = false) : [x].filter p = [] := by rw [List.filter_cons_of_neg (by rw [h]; decide), List.filter_nil]
theorem lastN_snoc (O : List Nat) (x : Nat) : lastN (O ++ [x]) = x := by
  unfold lastN
  rw [List.length_append, List.length_singleton, Nat.add_sub_cancel, List.getD_eq_getElem?_getD, List.getElem?_append_right (Nat.le_refl _), Nat.sub_self]
  rfl
structure ApIs (s : Nat) (n : Int) (i : Nat) : Prop where
  st : (ap1 (nodes s) n i).1 = mk (apL (nodes s) n i).1
  la : (ap1 (nodes s) n i).2 = if (apL (nodes s) n i).1.length = 0 then -2 else (lastN (apL (nodes s) n i).1 : Int)
  nd : (apL (nodes s) n i).1.Nodup
  sub : ∀ x ∈ (apL (nodes s) n i).1, x ∈ (nodes s).take i
  fl : (apL (nodes s) n i).2 = ((nodes s).take i).filter (fun x => decide (x ∉ (apL (nodes s) n i).1))
  le : ((apL (nodes s) n i).1.length : Int) ≤ n
theorem nodes_nd (s : Nat) : (nodes s).Nodup := (nodes_rise s).imp (fun h => Nat.ne_of_lt h)
theorem not_ahead (s i : Nat) (hi : i < (nodes s).length) : (nodes s).getD i 0 ∉ (nodes s).take i := by
  intro h
  rw [List.mem_take_iff_getElem] at h
  obtain ⟨j, hj, e⟩ := h
  have hji : j < i := by omega
  rw [List.getD_eq_getElem?_getD, List.getElem?_eq_getElem hi] at e
  have := List.pairwise_iff_getElem.1 (nodes_rise s) j i (by omega) hi hji
  simp at e
  omega
theorem take_one (s i : Nat) (hi : i < (nodes s).length) : (nodes s).take (i + 1) = (nodes s).take i ++ [(nodes s).getD i 0] := by
  rw [List.take_add_one, List.getD_eq_getElem?_getD, List.getElem?_eq_getElem hi]; rfl
theorem ap_is (s : Nat) (n : Int) (h1 : 1 ≤ n) : ∀ i, i ≤ (nodes s).length → ApIs s n i
  | 0, _ => ⟨rfl, rfl, List.nodup_nil, fun x hx => (by cases hx), rfl, (by show ((0 : Nat) : Int) ≤ n; omega)⟩
  | i + 1, hi => by
    have ih := ap_is s n h1 i (by omega)
    have hx := not_ahead s i (by omega)
    have ht := take_one s i (by omega)
    have hxl : (nodes s).getD i 0 < 64 := nodes_at_lt s i
    have h64 : ∀ x ∈ (apL (nodes s) n i).1, x < 64 := fun x h => nodes_lt s x (List.mem_of_mem_take (ih.sub x h))
    have hlen := lenS_mk _ h64 ih.nd
    have hw : withS (mk (apL (nodes s) n i).1) ((nodes s).getD i 0 : Nat) = mk ((apL (nodes s) n i).1 ++ [(nodes s).getD i 0]) := by rw [withS_at _ _ hxl, mk_snoc]
    have hcond : ((lenS (ap1 (nodes s) n i).1 : Int) < n ∧ (ap1 (nodes s) n i).2 + 1 < ((nodes s).getD i 0 : Int)) ↔ (((apL (nodes s) n i).1.length : Int) < n ∧ ((apL (nodes s) n i).1.length = 0 ∨ lastN (apL (nodes s) n i).1 + 1 < (nodes s).getD i 0)) := by
      rw [ih.st, hlen, ih.la]
      by_cases h0 : (apL (nodes s) n i).1.length = 0
      · rw [if_pos h0]; omega
      · rw [if_neg h0]; omega
    have hy : ∀ y ∈ (nodes s).take i, y ≠ (nodes s).getD i 0 := fun y hy e => hx (e ▸ hy)
    by_cases hc : ((apL (nodes s) n i).1.length : Int) < n ∧ ((apL (nodes s) n i).1.length = 0 ∨ lastN (apL (nodes s) n i).1 + 1 < (nodes s).getD i 0)
    · have e1 : apL (nodes s) n (i + 1) = ((apL (nodes s) n i).1 ++ [(nodes s).getD i 0], (apL (nodes s) n i).2) := by rw [apL, if_pos hc]
      have e2 : ap1 (nodes s) n (i + 1) = (withS (ap1 (nodes s) n i).1 ((nodes s).getD i 0 : Nat), ((nodes s).getD i 0 : Int)) := by
        rw [ap1, apStep, if_pos (hcond.2 hc)]
      refine ⟨by rw [e1, e2, ih.st, hw], ?_, ?_, ?_, ?_, ?_⟩
      · rw [e1, e2]
        show _ = if ((apL (nodes s) n i).1 ++ [(nodes s).getD i 0]).length = 0 then _ else _
        rw [if_neg (by simp), lastN_snoc]
      · rw [e1]
        exact List.nodup_append.2 ⟨ih.nd, by simp, fun a ha b hb e => by
          rw [List.mem_singleton.1 hb] at e
          exact hx (e ▸ ih.sub a ha)⟩
      · rw [e1, ht]
        intro x hxm
        rcases List.mem_append.1 hxm with h | h
        · exact List.mem_append_left _ (ih.sub x h)
        · exact List.mem_append_right _ h
      · rw [e1, ht, List.filter_append]
        show (apL (nodes s) n i).2 = _
        rw [ih.fl]
        have : [(nodes s).getD i 0].filter (fun x => decide (x ∉ (apL (nodes s) n i).1 ++ [(nodes s).getD i 0])) = [] := by simp
        rw [this, List.append_nil]
        refine List.filter_congr fun y hym => ?_
        rw [decide_eq_decide, List.mem_append, List.mem_singleton]
        constructor
        · rintro h (h2 | h2)
          · exact h h2
          · exact hy y hym h2
        · exact fun h h2 => h (.inl h2)
      · rw [e1]
        show ((((apL (nodes s) n i).1 ++ [(nodes s).getD i 0]).length : Nat) : Int) ≤ n
        rw [List.length_append, List.length_singleton]
        have := hc.1
        omega
    · have e1 : apL (nodes s) n (i + 1) = ((apL (nodes s) n i).1, (apL (nodes s) n i).2 ++ [(nodes s).getD i 0]) := by rw [apL, if_neg hc]
      have e2 : ap1 (nodes s) n (i + 1) = ap1 (nodes s) n i := by
        rw [ap1, apStep, if_neg (fun h => hc (hcond.1 h))]
      refine ⟨by rw [e1, e2, ih.st], by rw [e1, e2, ih.la], by rw [e1]; exact ih.nd, ?_, ?_, by rw [e1]; exact ih.le⟩
      · rw [e1, ht]; exact fun x hxm => List.mem_append_left _ (ih.sub x hxm)
      · rw [e1, ht, List.filter_append]
        show (apL (nodes s) n i).2 ++ [(nodes s).getD i 0] = _
        have hxo : (nodes s).getD i 0 ∉ (apL (nodes s) n i).1 := fun h => hx (ih.sub _ h)
        have : [(nodes s).getD i 0].filter (fun x => decide (x ∉ (apL (nodes s) n i).1)) = [(nodes s).getD i 0] := filt1 _ _ (decide_eq_true hxo)
        rw [this, ← ih.fl]
theorem ap2_is (s : Nat) (n : Int) (O : List Nat) (h1 : 1 ≤ n) (nd : O.Nodup) (hs : ∀ x ∈ O, x ∈ nodes s) (hle : (O.length : Int) ≤ n) : ∀ j, j ≤ (nodes s).length → ap2 (nodes s) n (mk O) j = mk (O ++ (((nodes s).take j).filter (fun x => decide (x ∉ O))).take (n.toNat - O.length))
  | 0, _ => by simp [ap2]
  | j + 1, hj => by
    have ih := ap2_is s n O h1 nd hs hle j (by omega)
    have ht := take_one s j (by omega)
    have hx := not_ahead s j (by omega)
    have hxl : (nodes s).getD j 0 < 64 := nodes_at_lt s j
    rw [ap2, ih, ht, List.filter_append]
    generalize hF : ((nodes s).take j).filter (fun x => decide (x ∉ O)) = F
    have hFs : ∀ x ∈ F, x ∈ (nodes s).take j ∧ x ∉ O := fun x hxm => by
      rw [← hF] at hxm
      exact ⟨(List.mem_filter.1 hxm).1, of_decide_eq_true (List.mem_filter.1 hxm).2⟩
    have hFn : F.Nodup := by rw [← hF]; exact List.Pairwise.filter _ ((nodes_nd s).sublist (List.take_sublist _ _))
    have hnd : (O ++ F.take (n.toNat - O.length)).Nodup := List.nodup_append.2 ⟨nd, hFn.sublist (List.take_sublist _ _), fun a ha b hb e => (hFs b (List.mem_of_mem_take hb)).2 (e ▸ ha)⟩
    have h64 : ∀ x ∈ O ++ F.take (n.toNat - O.length), x < 64 := fun x hxm => by
      rcases List.mem_append.1 hxm with h | h
      · exact nodes_lt s x (hs x h)
      · exact nodes_lt s x (List.mem_of_mem_take (hFs x (List.mem_of_mem_take h)).1)
    have hlen := lenS_mk _ h64 hnd
    rw [hlen, List.length_append, List.length_take]
    by_cases hxo : (nodes s).getD j 0 ∈ O
    · have e : [(nodes s).getD j 0].filter (fun x => decide (x ∉ O)) = [] := filt0 _ _ (decide_eq_false (fun h => h hxo))
      rw [e, List.append_nil]
      split
      · rw [withS_at _ _ hxl]
        refine eq_of_bits _ _ ?_ (mk_lt _ h64) fun i hi => ?_
        · rw [← mk_snoc]
          exact mk_lt _ fun y hy => by
            rcases List.mem_append.1 hy with h | h
            · exact h64 y h
            · rw [List.mem_singleton.1 h]; exact hxl
        · rw [← mk_snoc, mk_bit, mk_bit]
          apply decide_eq_decide.2
          constructor
          · intro h
            rcases List.mem_append.1 h with h | h
            · exact h
            · rw [List.mem_singleton.1 h]; exact List.mem_append_left _ hxo
          · exact fun h => List.mem_append_left _ h
      · rfl
    · have e : [(nodes s).getD j 0].filter (fun x => decide (x ∉ O)) = [(nodes s).getD j 0] := filt1 _ _ (decide_eq_true hxo)
      rw [e]
      by_cases hr : F.length < n.toNat - O.length
      · rw [if_pos (by omega), withS_at _ _ hxl, ← mk_snoc, List.append_assoc, List.take_of_length_le (by omega : F.length ≤ _), List.take_of_length_le (by rw [List.length_append, List.length_singleton]; omega)]
      · rw [if_neg (by omega), List.take_append_of_le_length (by omega)]
theorem apartS_is (s : Nat) (n : Int) (h1 : 1 ≤ n) (h2 : n ≤ (lenS s : Int)) : apartS s n = mk (apW (nodes s) n) ∧ (apW (nodes s) n).Nodup ∧ (∀ x ∈ apW (nodes s) n, x ∈ nodes s) ∧ (apW (nodes s) n).length = n.toNat := by
  have h := ap_is s n h1 (nodes s).length (Nat.le_refl _)
  have hsub : ∀ x ∈ (apL (nodes s) n (nodes s).length).1, x ∈ nodes s := fun x hx => List.mem_of_mem_take (h.sub x hx)
  have hfl : (apL (nodes s) n (nodes s).length).2 = (nodes s).filter (fun x => decide (x ∉ (apL (nodes s) n (nodes s).length).1)) := by
    have := h.fl
    rwa [List.take_length] at this
  have h3 := ap2_is s n _ h1 h.nd hsub h.le (nodes s).length (Nat.le_refl _)
  rw [List.take_length, ← hfl] at h3
  have hFn : (apL (nodes s) n (nodes s).length).2.Nodup := by rw [hfl]; exact List.Pairwise.filter _ (nodes_nd s)
  have hFs : ∀ x ∈ (apL (nodes s) n (nodes s).length).2, x ∈ nodes s ∧ x ∉ (apL (nodes s) n (nodes s).length).1 := fun x hx => by
    rw [hfl] at hx
    exact ⟨(List.mem_filter.1 hx).1, of_decide_eq_true (List.mem_filter.1 hx).2⟩
  have hlen : (apL (nodes s) n (nodes s).length).1.length + (apL (nodes s) n (nodes s).length).2.length = (nodes s).length := by
    have key : ∀ i, i ≤ (nodes s).length → (apL (nodes s) n i).1.length + (apL (nodes s) n i).2.length = i := by
      intro i
      induction i with
      | zero => intro _; rfl
      | succ i ih =>
        intro hi
        have := ih (by omega)
        rw [apL]
        split
        · simp only [List.length_append, List.length_singleton]; omega
        · simp only [List.length_append, List.length_singleton]; omega
    exact key _ (Nat.le_refl _)
  have hle := h.le
  have hnd := h.nd
  have h4 : (nodes s).length = lenS s := rfl
  unfold apartS
  rw [← h4, h.st, h3]
  unfold apW
  clear h h3
  generalize (apL (nodes s) n (nodes s).length).1 = O at *
  generalize (apL (nodes s) n (nodes s).length).2 = F at *
  refine ⟨rfl, List.nodup_append.2 ⟨hnd, hFn.sublist (List.take_sublist _ _), fun a ha b hb e => (hFs b (List.mem_of_mem_take hb)).2 (e ▸ ha)⟩, fun x hx => ?_, ?_⟩
  · rcases List.mem_append.1 hx with hx | hx
    · exact hsub x hx
    · exact (hFs x (List.mem_of_mem_take hx)).1
  · rw [List.length_append, List.length_take]; omega
end Go.Proofs.YtmjkgnlmdcmdbaaDoor.Pick
