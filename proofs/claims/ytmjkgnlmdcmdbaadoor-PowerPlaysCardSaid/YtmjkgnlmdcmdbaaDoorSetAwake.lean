/- A set's list; law 3's example. -/
import Derived.Test.YtmjkgnlmdcmdbaaDoorSet03
namespace Go.Proofs.YtmjkgnlmdcmdbaaDoor.Sets
open Go.RowKit Go.Proofs.YtmjkgnlmdcmdbaaDoorW.PrintWords Go.Proofs.YtmjkgnlmdcmdbaaDoorW.PrintLast Go.Proofs.YtmjkgnlmdcmdbaaDoorW.PrintMore Go.Proofs.YtmjkgnlmdcmdbaaDoor.Row
set_option linter.unusedVariables false
set_option linter.unusedSimpArgs false
def nums (l : List Nat) : List Int := l.map Int.ofNat
end Go.Proofs.YtmjkgnlmdcmdbaaDoor.Sets
