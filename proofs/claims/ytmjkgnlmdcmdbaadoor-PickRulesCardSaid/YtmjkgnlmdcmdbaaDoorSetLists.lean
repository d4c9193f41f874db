/- SetLists: the set of any nodes, of the first ones, and its nodes; the law's walk. -/
import Derived.Test.YtmjkgnlmdcmdbaaDoorSetApart
namespace Go.Proofs.YtmjkgnlmdcmdbaaDoor.Sets
open Go.RowKit Go.Proofs.YtmjkgnlmdcmdbaaDoorW.PrintWords Go.Proofs.YtmjkgnlmdcmdbaaDoorW.PrintLast Go.Proofs.YtmjkgnlmdcmdbaaDoorW.PrintMore Go.Proofs.YtmjkgnlmdcmdbaaDoor.Row Go.Proofs.YtmjkgnlmdcmdbaaDoor.Open
set_option linter.unusedVariables false
set_option linter.unusedSimpArgs false
theorem rep_get (n j : Nat) : (List.replicate n false).getD j false = false := by
  rw [List.getD_eq_getElem?_getD, List.getElem?_replicate]
  split <;> rfl
/-- the truths of what a list has -/
def InL (la : List Bool) (l : List Int) : Prop := la.length = 64 ∧ ∀ j, j < 64 → la.getD j false = decide ((j : Int) ∈ l)
theorem InL.start : InL (List.replicate 64 false) [] := ⟨List.length_replicate, fun j hj => by rw [rep_get]; simp⟩
theorem InL.put {la : List Bool} {l : List Int} {x : Int} (h : InL la l) (h0 : 0 ≤ x) (h1 : x < 64) : InL (la.set x.toNat true) (l ++ [x]) := ⟨by rw [List.length_set]; exact h.1, fun j hj => by
  have h2 := h.2 j hj
  rw [List.getD_eq_getElem?_getD, List.getElem?_set]
  by_cases hij : x.toNat = j
  · have e : (j : Int) = x := by omega
    rw [if_pos hij, if_pos (by rw [h.1]; omega)]
    simp [e]
  · have e : ¬ (j : Int) = x := by omega
    rw [if_neg hij, ← List.getD_eq_getElem?_getD, h2]
    simp [e]⟩
theorem InL.skip {la : List Bool} {l : List Int} {x : Int} (h : InL la l) (h1 : x < 0 ∨ 64 ≤ x) : InL la (l ++ [x]) := ⟨h.1, fun j hj => by
  have e : ¬ (j : Int) = x := by omega
  rw [h.2 j hj]
  simp [e]⟩
theorem InL.bit {la : List Bool} {l : List Int} (h : InL la l) (j : Nat) (hj : j < 64) : la.getD j false = (ofS l).testBit j := by rw [h.2 j hj, ofS_bit l j hj]
theorem InL.is {la : List Bool} {l : List Int} (h : InL la l) : bitsOf la = ofS l :=
  eq_of_bits _ _ (bitsOf_lt la) (ofS_lt l) fun i hi => by rw [bitsOf_bit la i hi, h.bit i hi]
/-- the first k are true -/
def FirstL (lb : List Bool) (k : Nat) : Prop := lb.length = 64 ∧ ∀ j, j < 64 → lb.getD j false = decide (j < k)
theorem FirstL.start : FirstL (List.replicate 64 false) 0 := ⟨List.length_replicate, fun j hj => by rw [rep_get]; simp⟩
theorem FirstL.put {lb : List Bool} {k : Nat} (h : FirstL lb k) (hk : k < 64) : FirstL (lb.set k true) (k + 1) := ⟨by rw [List.length_set]; exact h.1, fun j hj => by
  rw [List.getD_eq_getElem?_getD, List.getElem?_set]
  by_cases hij : k = j
  · subst hij
    rw [if_pos rfl, if_pos (by rw [h.1]; omega)]
    simp
  · rw [if_neg hij, ← List.getD_eq_getElem?_getD, h.2 j hj]
    by_cases h1 : j < k
    · have : j < k + 1 := by omega
      simp [h1, this]
    · have : ¬ j < k + 1 := by omega
      simp [h1, this]⟩
theorem FirstL.is {lb : List Bool} {k : Nat} {n : Int} (h : FirstL lb k) (hk : ∀ j : Nat, j < 64 → (j < k ↔ (j : Int) < n)) : bitsOf lb = allS n :=
  eq_of_bits _ _ (bitsOf_lt lb) (allS_lt n) fun i hi => by
    rw [bitsOf_bit lb i hi, allS_bit n i hi, h.2 i hi]
    by_cases h1 : i < k
    · simp [h1, (hk i hi).1 h1]
    · have : ¬ (i : Int) < n := fun h => h1 ((hk i hi).2 h)
      simp [h1, this]
end Go.Proofs.YtmjkgnlmdcmdbaaDoor.Sets
