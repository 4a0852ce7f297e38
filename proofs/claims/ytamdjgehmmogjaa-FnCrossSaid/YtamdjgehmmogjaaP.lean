/- Contracts: determinants. -/
import Derived.Test.YtamdjgehmmogjaaF
import Derived.Test.YtamdjgehmmogjaaI
set_option maxRecDepth 100000
namespace Go.Proofs.Ytamdjgehmmogjaa
open Go.RowKit Pol

end Go.Proofs.Ytamdjgehmmogjaa
