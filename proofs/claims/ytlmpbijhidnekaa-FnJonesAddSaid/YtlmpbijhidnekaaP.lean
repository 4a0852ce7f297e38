/- Contracts: determinants. -/
import Derived.Test.YtlmpbijhidnekaaF
import Derived.Test.YtlmpbijhidnekaaI
namespace Go.Proofs.Ytlmpbijhidnekaa
open Go.RowKit Pol

end Go.Proofs.Ytlmpbijhidnekaa
