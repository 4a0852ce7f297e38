/- A box laid at a place that is known otherwise. -/
import Derived.Test.YtmfiiambannecaaDoorL
namespace Go.Proofs.YtmfiiambannecaaDoor
open Go.RowKit Pol

theorem rangeAt_nw {w : World} {L : List Value} {t : TypeId} {N : Nat} (h : w.heap.size = N) : (w.alloc (.cells L.toArray t)).rangeAt N 0 L := h ▸ rangeAt_new w L t
end Go.Proofs.YtmfiiambannecaaDoor
