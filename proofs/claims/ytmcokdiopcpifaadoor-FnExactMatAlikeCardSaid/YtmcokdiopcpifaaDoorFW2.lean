/- A box of one fraction, as a row of cells. -/
import Derived.Test.YtmcokdiopcpifaaDoorL
set_option maxRecDepth 100000
namespace Go.Proofs.YtmcokdiopcpifaaDoor
open Go.RowKit Pol

theorem rangeOf1 {W : World} {X : Nat} {f : Nat → Fr} (h : BoxAt W X f 1) : W.rangeAt X 0 [.int .i64 (f 0).re, .int .i64 (f 0).im, .int .i64 (f 0).den] := by
  obtain ⟨a0, a1, a2⟩ := h 0 (by omega)
  intro j v hv
  rw [Nat.zero_add]
  match j, hv with
  | 0, hv => obtain rfl := Option.some.inj hv; exact a0
  | 1, hv => obtain rfl := Option.some.inj hv; exact a1
  | 2, hv => obtain rfl := Option.some.inj hv; exact a2
  | n + 3, hv => simp at hv
end Go.Proofs.YtmcokdiopcpifaaDoor
