/- Package node, by hand walks: nodes claimed, given back, drained; a table that nobody made; law 6's example. -/
import Derived.Test.YtmjkgnlmdcmdbaaDoorNode2
namespace Go.Proofs.YtmjkgnlmdcmdbaaDoor.Node
open Go.RowKit Go.Proofs.YtmjkgnlmdcmdbaaDoorW.PrintWords Go.Proofs.YtmjkgnlmdcmdbaaDoorW.PrintLast Go.Proofs.YtmjkgnlmdcmdbaaDoorW.PrintMore Go.Proofs.YtmjkgnlmdcmdbaaDoor.Row Go.Proofs.YtmjkgnlmdcmdbaaDoor.Sets
set_option linter.unusedVariables false
set_option linter.unusedSimpArgs false
set_option maxRecDepth 100000
end Go.Proofs.YtmjkgnlmdcmdbaaDoor.Node
