/- Law 3's own functions, and a set's list, by hand walks. -/
import Derived.Test.YtmjkgnlmdcmdbaaDoorSets3
import Derived.Deep.DeepCutAuto
namespace Go.Proofs.YtmjkgnlmdcmdbaaDoor.Sets
open Go.RowKit Go.Proofs.YtmjkgnlmdcmdbaaDoorW.PrintWords Go.Proofs.YtmjkgnlmdcmdbaaDoorW.PrintLast Go.Proofs.YtmjkgnlmdcmdbaaDoorW.PrintMore Go.Proofs.YtmjkgnlmdcmdbaaDoor.Row
set_option linter.unusedVariables false
set_option linter.unusedSimpArgs false
/-- what a list of 64 truths is -/
def bitsOf (l : List Bool) : Nat := ofB (fun i => l.getD i false) 64
theorem bitsOf_lt (l : List Bool) : bitsOf l < 18446744073709551616 := by
  have := ofB_lt (fun i => l.getD i false) 64
  unfold bitsOf
  omega
theorem bitsOf_bit (l : List Bool) (i : Nat) (hi : i < 64) : (bitsOf l).testBit i = l.getD i false := by
  unfold bitsOf
  rw [ofB_bit]
  simp [hi]
theorem info_int : (Tryd.prog.info? 3).map (fun i => (i.zero, i.size, i.bytes)) = some (some (.int .i64 0), 1, 8) := by kernel_rfl
/-- the truths of a set -/
def truths (s : Nat) : List Bool := (List.range 64).map fun i => s.testBit i
theorem truths_len (s : Nat) : (truths s).length = 64 := by simp [truths]
theorem truths_get (s i : Nat) (hi : i < 64) : (truths s).getD i false = s.testBit i := by simp [truths, hi]
end Go.Proofs.YtmjkgnlmdcmdbaaDoor.Sets
