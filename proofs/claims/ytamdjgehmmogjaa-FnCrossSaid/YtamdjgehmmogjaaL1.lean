/- Contract: a diagonal matrix. -/
import Derived.Test.YtamdjgehmmogjaaL
import Derived.Test.YtamdjgehmmogjaaV
set_option maxRecDepth 100000
namespace Go.Proofs.Ytamdjgehmmogjaa
open Go.RowKit Pol

end Go.Proofs.Ytamdjgehmmogjaa
