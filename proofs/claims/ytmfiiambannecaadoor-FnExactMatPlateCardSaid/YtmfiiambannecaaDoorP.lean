/- Contracts: determinants. -/
import Derived.Test.YtmfiiambannecaaDoorF
import Derived.Test.YtmfiiambannecaaDoorI
namespace Go.Proofs.YtmfiiambannecaaDoor
open Go.RowKit Pol

end Go.Proofs.YtmfiiambannecaaDoor
