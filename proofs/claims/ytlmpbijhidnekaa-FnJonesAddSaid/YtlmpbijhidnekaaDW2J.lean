/- What the walks of laws of two drawn vectors need. -/
import Derived.Test.YtlmpbijhidnekaaDW
import Derived.Test.YtlmpbijhidnekaaDT2
namespace Go.Proofs.Ytlmpbijhidnekaa
open Go.RowKit Pol

theorem rangeAt_new2 {w : World} {L : List Value} {t : TypeId} {N : Nat} (h : w.heap.size = N) : (w.alloc (.cells L.toArray t)).rangeAt N 0 L := h ▸ rangeAt_new w L t
end Go.Proofs.Ytlmpbijhidnekaa
