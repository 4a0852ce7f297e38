/- Contracts of the laws' helpers: sixteen fractions. -/
import Derived.Test.YtmcokdiopcpifaaDoorL
set_option maxRecDepth 100000
namespace Go.Proofs.YtmcokdiopcpifaaDoor
open Go.RowKit Pol

end Go.Proofs.YtmcokdiopcpifaaDoor
