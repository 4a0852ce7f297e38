/- A box of one fraction, as a row of cells. -/
import Derived.Test.YtmcokdiopcpifaaDoorMsG3
import Derived.Test.YtmcokdiopcpifaaDoorMsG18
import Derived.Test.YtmcokdiopcpifaaDoorMsN
import Derived.Test.YtmcokdiopcpifaaDoorMsG12
import Derived.Test.YtmcokdiopcpifaaDoorMsJ
import Derived.Test.YtmcokdiopcpifaaDoorMsG7
set_option maxRecDepth 100000
namespace Go.Proofs.YtmcokdiopcpifaaDoor
open Go.RowKit Pol
theorem rangeOf1 {W : World} {X : Nat} {f : Nat → Fr} (h : BoxAt W X f 1) : W.rangeAt X 0 [.int .i64 (f 0).re, .int .i64 (f 0).im, .int .i64 (f 0).den] := by
  obtain ⟨a0, a1, a2⟩ := h 0 (by omega)
  intro j v hv
  rw [Nat.zero_add]
  match j, hv with
  | 0, hv => obtain rfl := Option.some.inj hv; exact a0
  | 1, hv => obtain rfl := Option.some.inj hv; exact a1
  | 2, hv => obtain rfl := Option.some.inj hv; exact a2
  | n + 3, hv => simp at hv
end Go.Proofs.YtmcokdiopcpifaaDoor
namespace Go.Proofs.YtmcokdiopcpifaaDoor
open Pol
theorem m4l_ok {e : Bool} {f : Nat → Fr × Bool} (h : (m4l e f).2 = true) : (e = false ∧ ∀ k, k < 4 → (f k).2 = true) ∧ (m4l e f).1 = m4f f := by
  unfold m4l at h ⊢
  obtain ⟨h1, h2⟩ := gt_end m4z (fl e f 4) (m4f f)
  rw [h] at h1
  exact ⟨fl_false.1 h1, (h2 h).symm⟩
end Go.Proofs.YtmcokdiopcpifaaDoor
namespace Go.Proofs.YtmcokdiopcpifaaDoor
open Pol
theorem m4E_ext {m n : M4} (h1 : m.a = n.a) (h2 : m.b = n.b) (h3 : m.c = n.c) (h4 : m.d = n.d) : m = n := by
  obtain ⟨a, b, c, d⟩ := m
  obtain ⟨a', b', c', d'⟩ := n
  simp only at h1 h2 h3 h4
  rw [h1, h2, h3, h4]
end Go.Proofs.YtmcokdiopcpifaaDoor
namespace Go.Proofs.YtmcokdiopcpifaaDoor
open Pol
def mZ : M4 := ⟨f0, f0, f0, f0⟩
end Go.Proofs.YtmcokdiopcpifaaDoor
