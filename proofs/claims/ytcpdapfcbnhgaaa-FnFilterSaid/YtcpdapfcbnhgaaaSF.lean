/- Contracts: the four numbers of a vector, the reference's side; parts of fractions, the program's side. -/
import Derived.Test.YtcpdapfcbnhgaaaQ5
import Derived.Test.YtcpdapfcbnhgaaaJ
import Derived.Test.YtcpdapfcbnhgaaaW
namespace Go.Proofs.Ytcpdapfcbnhgaaa
open Go.RowKit Pol

end Go.Proofs.Ytcpdapfcbnhgaaa
