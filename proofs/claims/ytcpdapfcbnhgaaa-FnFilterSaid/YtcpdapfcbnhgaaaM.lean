/- Contracts of the laws' helpers: matrices, numbers, vectors to the program's types, and their comparison with themselves. -/
import Derived.Test.YtcpdapfcbnhgaaaL
namespace Go.Proofs.Ytcpdapfcbnhgaaa
open Go.RowKit Pol

end Go.Proofs.Ytcpdapfcbnhgaaa
