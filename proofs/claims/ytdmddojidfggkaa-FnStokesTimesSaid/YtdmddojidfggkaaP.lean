/- Contracts: determinants. -/
import Derived.Test.YtdmddojidfggkaaF
import Derived.Test.YtdmddojidfggkaaI
namespace Go.Proofs.Ytdmddojidfggkaa
open Go.RowKit Pol

end Go.Proofs.Ytdmddojidfggkaa
