/- SetNodes: the law's walk. -/
import Derived.Test.YtmjkgnlmdcmdbaaDoorSetAwake
import Derived.Deep.CutBlock
namespace Go.Proofs.YtmjkgnlmdcmdbaaDoor.Sets
open Go.RowKit Go.Proofs.YtmjkgnlmdcmdbaaDoorW.PrintWords Go.Proofs.YtmjkgnlmdcmdbaaDoorW.PrintLast Go.Proofs.YtmjkgnlmdcmdbaaDoorW.PrintMore Go.Proofs.YtmjkgnlmdcmdbaaDoor.Row
set_option linter.unusedVariables false
set_option linter.unusedSimpArgs false
theorem u64_out (x : Int) (h : (Lit.int .u64 x).wf = true) : ∃ s : Nat, x = (s : Int) ∧ s < 18446744073709551616 := by
  have hb : 0 ≤ x ∧ x ≤ 18446744073709551615 := bounds_u64 h
  exact ⟨x.toNat, by omega, by omega⟩
/-- a set's truths, but for those of number n below i: they are b -/
def ButFor (s : Nat) (n : Int) (b : Bool) (i : Nat) (l : List Bool) : Prop := l.length = 64 ∧ ∀ j, j < 64 → l.getD j false = if (j : Int) = n ∧ j < i then b else s.testBit j
theorem ButFor.start (s : Nat) (n : Int) (b : Bool) : ButFor s n b 0 (truths s) := ⟨truths_len s, fun j hj => by rw [if_neg (by omega), truths_get s j hj]⟩
theorem ButFor.keep {s : Nat} {n : Int} {b : Bool} {i : Nat} {l : List Bool} (h : ButFor s n b i l) (hne : (i : Int) ≠ n) : ButFor s n b (i + 1) l := ⟨h.1, fun j hj => by
  rw [h.2 j hj]
  by_cases h1 : (j : Int) = n ∧ j < i
  · rw [if_pos h1, if_pos ⟨h1.1, by omega⟩]
  · rw [if_neg h1, if_neg (by omega)]⟩
theorem ButFor.put {s : Nat} {n : Int} {b : Bool} {i : Nat} {l : List Bool} (h : ButFor s n b i l) (he : (i : Int) = n) (hi : i < 64) : ButFor s n b (i + 1) (l.set i b) := ⟨by rw [List.length_set]; exact h.1, fun j hj => by
  have h2 := h.2 j hj
  rw [List.getD_eq_getElem?_getD, List.getElem?_set]
  by_cases hij : i = j
  · subst hij
    rw [if_pos rfl, if_pos (by rw [h.1]; exact hi), if_pos ⟨he, by omega⟩]
    rfl
  · rw [if_neg hij, ← List.getD_eq_getElem?_getD, h2, if_neg (by omega), if_neg (by omega)]⟩
end Go.Proofs.YtmjkgnlmdcmdbaaDoor.Sets
