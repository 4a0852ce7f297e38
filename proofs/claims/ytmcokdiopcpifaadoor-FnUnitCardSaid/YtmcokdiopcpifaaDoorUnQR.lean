/- Plain facts: real fractions and their values. -/
import Derived.Test.YtmcokdiopcpifaaDoorUnPlain
set_option maxRecDepth 100000
namespace Go.Proofs.YtmcokdiopcpifaaDoor
open Pol
theorem realB_iff {a : Fr} : realB a = true ↔ vld a = true ∧ a.im = 0 := by unfold realB; simp
end Go.Proofs.YtmcokdiopcpifaaDoor
