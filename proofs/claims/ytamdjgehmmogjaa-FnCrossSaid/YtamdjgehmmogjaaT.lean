/- Contracts: the results of four fractions; adjoints. -/
import Derived.Test.YtamdjgehmmogjaaP
import Derived.Test.YtamdjgehmmogjaaQ
import Derived.Test.YtamdjgehmmogjaaL
set_option maxRecDepth 100000
namespace Go.Proofs.Ytamdjgehmmogjaa
open Go.RowKit Pol

/-- What a call hands back that makes four fractions. -/
def M4Out (g : M4 × Bool) (w : World) (e : Ending) (w' : World) : Prop :=
  e = .returned (.tuple #[.agg #[.int .i64 g.1.a.re, .int .i64 g.1.a.im, .int .i64 g.1.a.den, .int .i64 g.1.b.re, .int .i64 g.1.b.im, .int .i64 g.1.b.den, .int .i64 g.1.c.re, .int .i64 g.1.c.im, .int .i64 g.1.c.den, .int .i64 g.1.d.re, .int .i64 g.1.d.im, .int .i64 g.1.d.den], .bool g.2]) ∧ Below w.heap.size w w'
theorem M4Out.yes {g : M4 × Bool} {f : M4} {w w' : World} (h2 : g.2 = true) (h1 : f = g.1) (hb : Below w.heap.size w w') : M4Out g w (.returned (.tuple #[.agg #[.int .i64 f.a.re, .int .i64 f.a.im, .int .i64 f.a.den, .int .i64 f.b.re, .int .i64 f.b.im, .int .i64 f.b.den, .int .i64 f.c.re, .int .i64 f.c.im, .int .i64 f.c.den, .int .i64 f.d.re, .int .i64 f.d.im, .int .i64 f.d.den], .bool true])) w' :=
  ⟨by rw [h1, h2], hb⟩
theorem M4Out.no {g : M4 × Bool} {w w' : World} (h2 : g = (m4z, false)) (hb : Below w.heap.size w w') : M4Out g w (.returned (.tuple #[.agg #[.int .i64 0, .int .i64 0, .int .i64 0, .int .i64 0, .int .i64 0, .int .i64 0, .int .i64 0, .int .i64 0, .int .i64 0, .int .i64 0, .int .i64 0, .int .i64 0], .bool false])) w' :=
  ⟨by rw [h2]; rfl, hb⟩
theorem Room.sm {b : Nat} {v : Bool} {W w1 : World} {N n : Nat} (h : Room W N n) (hs : Sm b v W w1) (hN : N < W.heap.size) (hne : N ≠ b) : Room w1 N n := fun j hj =>
  ⟨by rw [hs.atc N hN hne]; exact (h j hj).1, by rw [hs.atf N hN hne]; exact (h j hj).2⟩
theorem results_cell_mid2 {P : Program} {fn : Func} {p u : Tmp} {ty : TypeId} (h : fn.results = #[.cell p ty, .tmp u]) (tmps : Array Value) (w : World) (g : Nat) (cs : List Value) (d : TypeDesc)
    (hp : tmps.getD p undef = .pointer (some ⟨g, 0, none⟩)) (hc : w.rangeAt g 0 cs) (hu : P.underlying ty = some d) (hd : d.isRow = true) (hi : (P.info? ty).map (·.size) = some cs.length) :
    (results fn tmps).run P w = .ok (.tuple #[.agg cs.toArray, tmps.getD u undef]) w := by
  have hp' : tmps[p]?.getD undef = .pointer (some ⟨g, 0, none⟩) := by simpa using hp
  simp [results, h, hp', asAddr, run_loadVar_mid w g 0 ty cs d hc hu hd hi]
end Go.Proofs.Ytamdjgehmmogjaa
