/- Contracts of the reference: four results, adjoints. -/
import Derived.Test.YtamdjgehmmogjaaT
import Derived.Test.YtamdjgehmmogjaaI
set_option maxRecDepth 100000
namespace Go.Proofs.Ytamdjgehmmogjaa
open Go.RowKit Pol

theorem M4Out.fn {g : M4 × Bool} {w w' : World} {e : Ending} (h : M4Out g w e w') : e = .returned (.tuple #[.agg #[.int .i64 g.1.a.re, .int .i64 g.1.a.im, .int .i64 g.1.a.den, .int .i64 g.1.b.re, .int .i64 g.1.b.im, .int .i64 g.1.b.den, .int .i64 g.1.c.re, .int .i64 g.1.c.im, .int .i64 g.1.c.den, .int .i64 g.1.d.re, .int .i64 g.1.d.im, .int .i64 g.1.d.den], .bool g.2]) ∧ Below w.heap.size w w' := h
def g4 (a b c d : Fr) (ok : Bool) : M4 × Bool := if ok = true then (⟨a, b, c, d⟩, true) else (m4z, false)
end Go.Proofs.Ytamdjgehmmogjaa
