/- Contracts of the laws' helpers: matrices, numbers, vectors to the program's types, and their comparison with themselves. -/
import Derived.Test.YtdmddojidfggkaaL
namespace Go.Proofs.Ytdmddojidfggkaa
open Go.RowKit Pol

end Go.Proofs.Ytdmddojidfggkaa
