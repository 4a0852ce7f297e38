/- Contracts: determinants. -/
import Derived.Test.YtmfiiambannecaaF
import Derived.Test.YtmfiiambannecaaI
namespace Go.Proofs.Ytmfiiambannecaa
open Go.RowKit Pol

end Go.Proofs.Ytmfiiambannecaa
