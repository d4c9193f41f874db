/- math/bits.Len64, walked as the shelf's own contract is (its template's lines at this program). -/
import Derived.Test.YtmjkgnlmdcmdbaaDoorProg
import Derived.Lib.Strings
import Derived.Lib.Slices
import Derived.Lib.Small
import Derived.Lib.Walk
import Derived.Lib.BitFns
namespace Go.Proofs.YtmjkgnlmdcmdbaaDoor.Sets

end Go.Proofs.YtmjkgnlmdcmdbaaDoor.Sets
