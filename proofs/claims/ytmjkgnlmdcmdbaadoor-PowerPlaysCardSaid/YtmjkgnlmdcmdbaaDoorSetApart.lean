/- SetApart: sets that have no node in common; the law's walk. -/
import Derived.Test.YtmjkgnlmdcmdbaaDoorSetNodes
import Derived.Test.YtmjkgnlmdcmdbaaDoorOpen
namespace Go.Proofs.YtmjkgnlmdcmdbaaDoor.Sets
open Go.RowKit Go.Proofs.YtmjkgnlmdcmdbaaDoorW.PrintWords Go.Proofs.YtmjkgnlmdcmdbaaDoorW.PrintLast Go.Proofs.YtmjkgnlmdcmdbaaDoorW.PrintMore Go.Proofs.YtmjkgnlmdcmdbaaDoor.Row Go.Proofs.YtmjkgnlmdcmdbaaDoor.Open
set_option linter.unusedVariables false
set_option linter.unusedSimpArgs false
/-- element j as a number -/
def un (l : List Int) (j : Nat) : Nat := (rd l (j : Int)).toNat
def Disj (x y : Nat) : Prop := ∀ n, n < 64 → ¬ (x.testBit n = true ∧ y.testBit n = true)
/-- no two of the first i have a node in common -/
def ApartTo (l : List Int) (i : Nat) : Prop := ∀ j, j < i → ∀ k, k < j → Disj (un l j) (un l k)
def Small (l : List Int) : Prop := ∀ i : Int, 0 ≤ i → i < l.length → ∃ s : Nat, rd l i = (s : Int) ∧ s < 18446744073709551616
/-- no common node ahead of pair (i, k) and node n -/
def Pairs (l : List Int) (i k n : Nat) : Prop := ApartTo l i ∧ (∀ b, b < k → Disj (un l i) (un l b)) ∧ ∀ m, m < n → ¬ ((un l i).testBit m = true ∧ (un l k).testBit m = true)
theorem Pairs.next (l : List Int) (i k : Nat) : Pairs l i k 64 ↔ Pairs l i (k + 1) 0 := by
  constructor
  · rintro ⟨h1, h2, h3⟩
    refine ⟨h1, fun b hb => ?_, fun m hm => by omega⟩
    by_cases hbk : b < k
    · exact h2 b hbk
    · obtain rfl : b = k := by omega
      exact h3
  · rintro ⟨h1, h2, _⟩
    exact ⟨h1, fun b hb => h2 b (by omega), h2 k (by omega)⟩
theorem Pairs.step (l : List Int) (i k n : Nat) : Pairs l i k (n + 1) ↔ Pairs l i k n ∧ ¬ ((un l i).testBit n = true ∧ (un l k).testBit n = true) := by
  constructor
  · rintro ⟨h1, h2, h3⟩
    exact ⟨⟨h1, h2, fun m hm => h3 m (by omega)⟩, h3 n (by omega)⟩
  · rintro ⟨⟨h1, h2, h3⟩, h4⟩
    refine ⟨h1, h2, fun m hm => ?_⟩
    by_cases hmn : m < n
    · exact h3 m hmn
    · obtain rfl : m = n := by omega
      exact h4
end Go.Proofs.YtmjkgnlmdcmdbaaDoor.Sets
