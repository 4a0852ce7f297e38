/- Contracts of the laws' helpers: matrices, numbers, vectors to the program's types, and their comparison with themselves. -/
import Derived.Test.YtcpdapfcbnhgaaaDoorL
namespace Go.Proofs.YtcpdapfcbnhgaaaDoor
open Go.RowKit Pol

end Go.Proofs.YtcpdapfcbnhgaaaDoor
