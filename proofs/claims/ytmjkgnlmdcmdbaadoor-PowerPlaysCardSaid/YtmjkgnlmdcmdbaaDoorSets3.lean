/- Package set, by hand walks: the first so many, rows, lists. -/
import Derived.Test.YtmjkgnlmdcmdbaaDoorSets2
import Derived.Deep.LoopGhost
import Derived.OwnWalk
namespace Go.Proofs.YtmjkgnlmdcmdbaaDoor.Sets
open Go.RowKit Go.Proofs.YtmjkgnlmdcmdbaaDoorW.PrintWords Go.Proofs.YtmjkgnlmdcmdbaaDoorW.PrintLast Go.Proofs.YtmjkgnlmdcmdbaaDoorW.PrintMore
set_option linter.unusedVariables false
set_option linter.unusedSimpArgs false
theorem lowS_at (s : Nat) (h : s ≠ 0) : lowS s = (Lib.ctz 64 s : Nat) := by unfold lowS; rw [if_neg h]
/-- the lowest so many -/
def firstS (s : Nat) (n : Int) : Nat := if n < 0 ∨ (lenS s : Int) < n then 0 else mk ((nodes s).take n.toNat)
theorem take_lt (s k : Nat) : ∀ i ∈ (nodes s).take k, i < 64 := fun i h => nodes_lt s i (List.mem_of_mem_take h)
theorem firstS_lt (s : Nat) (n : Int) : firstS s n < 18446744073709551616 := by
  unfold firstS
  split
  · omega
  · exact mk_lt _ (take_lt s _)
theorem row_lt (k : Nat) (n : Int) (h0 : 0 ≤ n) (h : (k : Int) + n ≤ 64) : (2 ^ n.toNat - 1) * 2 ^ k < 18446744073709551616 := by
  have h1 : (2 ^ n.toNat - 1) * 2 ^ k < 2 ^ n.toNat * 2 ^ k := Nat.mul_lt_mul_of_pos_right (by have := Nat.two_pow_pos n.toNat; omega) (Nat.two_pow_pos k)
  rw [← Nat.pow_add] at h1
  have h2 : 2 ^ (n.toNat + k) ≤ 2 ^ 64 := Nat.pow_le_pow_right (by omega) (by omega)
  omega
end Go.Proofs.YtmjkgnlmdcmdbaaDoor.Sets
