/- Contracts: rotators and filters. -/
import Derived.Test.YtmfiiambannecaaX
import Derived.Test.YtmfiiambannecaaY
import Derived.Test.YtmfiiambannecaaQ2
namespace Go.Proofs.Ytmfiiambannecaa
open Go.RowKit Pol

theorem DirOut.f {p q : Int} {w w' : World} {e : Ending} (h : DirOut p q w e w') (hd : dirB p q = false) : e = .returned (.tuple #[.agg #[.int .i64 0, .int .i64 0, .int .i64 0], .agg #[.int .i64 0, .int .i64 0, .int .i64 0], .bool false]) ∧ Below w.heap.size w w' := ⟨by rw [h.1, if_neg (by rw [hd]; simp)], h.2⟩
theorem DirOut.t {p q : Int} {w w' : World} {e : Ending} (h : DirOut p q w e w') (hd : dirB p q = true) : e = .returned (.tuple #[.agg #[.int .i64 (dC p q).re, .int .i64 (dC p q).im, .int .i64 (dC p q).den], .agg #[.int .i64 (dS p q).re, .int .i64 (dS p q).im, .int .i64 (dS p q).den], .bool true]) ∧ Below w.heap.size w w' := ⟨by rw [h.1, if_pos hd], h.2⟩
theorem M4Out.self {g : M4 × Bool} {w w' : World} (hb : Below w.heap.size w w') : M4Out g w (.returned (.tuple #[.agg #[.int .i64 g.1.a.re, .int .i64 g.1.a.im, .int .i64 g.1.a.den, .int .i64 g.1.b.re, .int .i64 g.1.b.im, .int .i64 g.1.b.den, .int .i64 g.1.c.re, .int .i64 g.1.c.im, .int .i64 g.1.c.den, .int .i64 g.1.d.re, .int .i64 g.1.d.im, .int .i64 g.1.d.den], .bool g.2])) w' := ⟨rfl, hb⟩
theorem Room.drew {w : World} {N n : Nat} (h : Room w N n) : Room w.drew N n := h
def gRot (p q : Int) : M4 × Bool := if dirB p q = true then (⟨dC p q, (⟨-(dS p q).re, (dS p q).im, (dS p q).den⟩ : Fr), dS p q, dC p q⟩, true) else (m4z, false)
theorem dS_im (p q : Int) : (dS p q).im = 0 := low_im0 _ _
theorem dS_bd (p q : Int) : -2000000000 ≤ (dS p q).re ∧ (dS p q).re ≤ 2000000000 := low_bd _ _ _
end Go.Proofs.Ytmfiiambannecaa
