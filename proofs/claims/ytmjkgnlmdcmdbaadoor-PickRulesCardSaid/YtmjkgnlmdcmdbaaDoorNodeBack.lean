/- NodeBack: the law's walk. -/
import Derived.Test.YtmjkgnlmdcmdbaaDoorNode3
import Derived.Test.YtmjkgnlmdcmdbaaDoorFlat
namespace Go.Proofs.YtmjkgnlmdcmdbaaDoor.Node
open Go.RowKit Go.Proofs.YtmjkgnlmdcmdbaaDoorW.PrintWords Go.Proofs.YtmjkgnlmdcmdbaaDoorW.PrintLast Go.Proofs.YtmjkgnlmdcmdbaaDoorW.PrintMore Go.Proofs.YtmjkgnlmdcmdbaaDoor.Row Go.Proofs.YtmjkgnlmdcmdbaaDoor.Sets Go.Proofs.YtmjkgnlmdcmdbaaDoor.Flat
set_option linter.unusedVariables false
set_option linter.unusedSimpArgs false
set_option maxRecDepth 100000
theorem minus_zero (x y : Nat) (hy : y < 18446744073709551616) (hx : x < 18446744073709551616) (h : ∀ i, i < 64 → x.testBit i = true → y.testBit i = true) : minus x y = 0 :=
  eq_of_bits _ _ (minus_lt x y hx) (by omega) fun i hi => by
    rw [minus_bit x y i hy hi, Nat.zero_testBit]
    cases hb : x.testBit i
    · rfl
    · rw [h i hi hb]; rfl
theorem cell_far {w w' : World} {ad : Addr} {n : Nat} {v : Value} (hv : w.cell? (ad.add n) = some v) (h : Below w.heap.size w w') : w'.cell? (ad.add n) = some v :=
  (h.cell (World.block_lt_of_cell? w _ hv)).trans hv
end Go.Proofs.YtmjkgnlmdcmdbaaDoor.Node
