/- '==' of two lanes that are alike. -/
import Derived.Test.YtplajmcjkddikaaRule
namespace Go.Proofs.Ytplajmcjkddikaa.Lock
open Go.RowKit Go.Proofs.Ytplajmcjkddikaa.Rule
theorem eql_lane (p q r : Bool) (w : World) : (binOp .eql 57 (lane p q r) (lane p q r)).run Try.prog w = .ok (.bool true) w := by
  cases p <;> cases q <;> cases r <;> kernel_rfl
end Go.Proofs.Ytplajmcjkddikaa.Lock
