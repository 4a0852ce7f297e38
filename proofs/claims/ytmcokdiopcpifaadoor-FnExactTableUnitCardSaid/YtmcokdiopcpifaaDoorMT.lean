/- Contracts of the laws' helpers: tables. -/
import Derived.Test.YtmcokdiopcpifaaDoorLT
import Derived.Test.YtmcokdiopcpifaaDoorM
set_option maxRecDepth 100000
namespace Go.Proofs.YtmcokdiopcpifaaDoor
open Go.RowKit Pol

end Go.Proofs.YtmcokdiopcpifaaDoor
