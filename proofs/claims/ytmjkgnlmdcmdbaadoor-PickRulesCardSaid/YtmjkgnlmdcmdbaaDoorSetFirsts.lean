/- SetFirsts: the lowest so many nodes, and the lowest row; the law's walk. -/
import Derived.Test.YtmjkgnlmdcmdbaaDoorSetLists
namespace Go.Proofs.YtmjkgnlmdcmdbaaDoor.Sets
open Go.RowKit Go.Proofs.YtmjkgnlmdcmdbaaDoorW.PrintWords Go.Proofs.YtmjkgnlmdcmdbaaDoorW.PrintLast Go.Proofs.YtmjkgnlmdcmdbaaDoorW.PrintMore Go.Proofs.YtmjkgnlmdcmdbaaDoor.Row Go.Proofs.YtmjkgnlmdcmdbaaDoor.Open
set_option linter.unusedVariables false
set_option linter.unusedSimpArgs false
/-- the first n of a set, of those below i -/
def FirstsL (s : Nat) (n : Int) (i : Nat) (l : List Bool) : Prop := l.length = 64 ∧ ∀ j, j < 64 → l.getD j false = (decide (j < i) && (s.testBit j && decide ((rank (fun j => s.testBit j) j : Int) < n)))
theorem FirstsL.start (s : Nat) (n : Int) : FirstsL s n 0 (List.replicate 64 false) := ⟨List.length_replicate, fun j hj => by rw [rep_get]; simp⟩
theorem FirstsL.put {s : Nat} {n : Int} {i : Nat} {l : List Bool} (h : FirstsL s n i l) (hi : i < 64) (hb : s.testBit i = true) (hr : (rank (fun j => s.testBit j) i : Int) < n) : FirstsL s n (i + 1) (l.set i true) := ⟨by rw [List.length_set]; exact h.1, fun j hj => by
  rw [List.getD_eq_getElem?_getD, List.getElem?_set]
  by_cases hij : i = j
  · subst hij
    rw [if_pos rfl, if_pos (by rw [h.1]; omega)]
    simp [hb, hr]
  · rw [if_neg hij, ← List.getD_eq_getElem?_getD, h.2 j hj]
    congr 1
    by_cases h1 : j < i
    · have : j < i + 1 := by omega
      simp [h1, this]
    · have : ¬ j < i + 1 := by omega
      simp [h1, this]⟩
theorem FirstsL.keep {s : Nat} {n : Int} {i : Nat} {l : List Bool} (h : FirstsL s n i l) (hi : s.testBit i = false ∨ ¬ (rank (fun j => s.testBit j) i : Int) < n) : FirstsL s n (i + 1) l := ⟨h.1, fun j hj => by
  rw [h.2 j hj]
  by_cases hij : i = j
  · subst hij
    rcases hi with hi | hi
    · simp [hi]
    · simp [hi]
  · congr 1
    by_cases h1 : j < i
    · have : j < i + 1 := by omega
      simp [h1, this]
    · have : ¬ j < i + 1 := by omega
      simp [h1, this]⟩
theorem FirstsL.is {s : Nat} {n : Int} {l : List Bool} (h : FirstsL s n 64 l) (h0 : 0 ≤ n) (h1 : n ≤ (lenS s : Int)) : bitsOf l = firstS s n :=
  eq_of_bits _ _ (bitsOf_lt l) (firstS_lt s n) fun i hi => by
    have e1 : firstS s n = mk ((nodes s).take n.toNat) := by unfold firstS; rw [if_neg (by omega)]
    rw [bitsOf_bit l i hi, h.2 i hi, e1, mk_bit, Bool.eq_iff_iff]
    have hc : ((rank (fun j => s.testBit j) i : Int) < n) ↔ rank (fun j => s.testBit j) i < n.toNat := by omega
    rw [decide_eq_true_eq, mem_take, Bool.and_eq_true, Bool.and_eq_true, decide_eq_true_eq, decide_eq_true_eq, hc]
/-- a row from k up to i -/
def RowL (k i : Nat) (l : List Bool) : Prop := l.length = 64 ∧ ∀ j, j < 64 → l.getD j false = (decide (k ≤ j) && decide (j < i))
theorem RowL.start (k : Nat) : RowL k k (List.replicate 64 false) := ⟨List.length_replicate, fun j hj => by
  rw [rep_get]
  by_cases h : k ≤ j
  · have : ¬ j < k := by omega
    simp [this]
  · simp [h]⟩
theorem RowL.put {k i : Nat} {l : List Bool} (h : RowL k i l) (hk : k ≤ i) (hi : i < 64) : RowL k (i + 1) (l.set i true) := ⟨by rw [List.length_set]; exact h.1, fun j hj => by
  rw [List.getD_eq_getElem?_getD, List.getElem?_set]
  by_cases hij : i = j
  · subst hij
    rw [if_pos rfl, if_pos (by rw [h.1]; omega)]
    simp [hk]
  · rw [if_neg hij, ← List.getD_eq_getElem?_getD, h.2 j hj]
    congr 1
    by_cases h1 : j < i
    · have : j < i + 1 := by omega
      simp [h1, this]
    · have : ¬ j < i + 1 := by omega
      simp [h1, this]⟩
theorem RowL.is {k : Nat} {n : Int} {l : List Bool} (h : RowL k (k + n.toNat) l) (h0 : 0 ≤ n) (hk : (k : Int) + n ≤ 64) : bitsOf l = (2 ^ n.toNat - 1) * 2 ^ k :=
  eq_of_bits _ _ (bitsOf_lt l) (row_lt k n h0 hk) fun i hi => by rw [bitsOf_bit l i hi, h.2 i hi, row_bit]
end Go.Proofs.YtmjkgnlmdcmdbaaDoor.Sets
