/- Contracts of the reference: four results, adjoints. -/
import Derived.Test.YtmfiiambannecaaT
import Derived.Test.YtmfiiambannecaaI
namespace Go.Proofs.Ytmfiiambannecaa
open Go.RowKit Pol

theorem M4Out.fn {g : M4 × Bool} {w w' : World} {e : Ending} (h : M4Out g w e w') : e = .returned (.tuple #[.agg #[.int .i64 g.1.a.re, .int .i64 g.1.a.im, .int .i64 g.1.a.den, .int .i64 g.1.b.re, .int .i64 g.1.b.im, .int .i64 g.1.b.den, .int .i64 g.1.c.re, .int .i64 g.1.c.im, .int .i64 g.1.c.den, .int .i64 g.1.d.re, .int .i64 g.1.d.im, .int .i64 g.1.d.den], .bool g.2]) ∧ Below w.heap.size w w' := h
def g4 (a b c d : Fr) (ok : Bool) : M4 × Bool := if ok = true then (⟨a, b, c, d⟩, true) else (m4z, false)
set_option maxRecDepth 100000 in
set_option maxHeartbeats 4000000 in
theorem l5Four_any (a b c d : Fr) (ok : Bool) (w : World) :
    Calls Try.prog 49 #[.agg #[.int .i64 a.re, .int .i64 a.im, .int .i64 a.den], .agg #[.int .i64 b.re, .int .i64 b.im, .int .i64 b.den], .agg #[.int .i64 c.re, .int .i64 c.im, .int .i64 c.den], .agg #[.int .i64 d.re, .int .i64 d.im, .int .i64 d.den], .bool ok] w (M4Out (g4 a b c d ok) w) := by
  cases ok
  · go_enter Try.func49, Try.ntmps49
    go_wp2
    refine bodyPost_ret (v := .tuple #[.agg #[.int .i64 0, .int .i64 0, .int .i64 0, .int .i64 0, .int .i64 0, .int .i64 0, .int .i64 0, .int .i64 0, .int .i64 0, .int .i64 0, .int .i64 0, .int .i64 0], .bool false]) (by simp [results, Try.results49, go_sem]) rfl (M4Out.no rfl ?_)
    (repeat' first | exact Below.refl _ _ | apply bl_alloc | apply bl_drewN | apply bl_drew | refine bl_trans ?_ (by assumption) | refine bl_set ?_ (by first | omega | (simp <;> omega)) _)
  · go_enter Try.func49, Try.ntmps49
    go_wp2
    refine bodyPost_ret (v := .tuple #[.agg #[.int .i64 a.re, .int .i64 a.im, .int .i64 a.den, .int .i64 b.re, .int .i64 b.im, .int .i64 b.den, .int .i64 c.re, .int .i64 c.im, .int .i64 c.den, .int .i64 d.re, .int .i64 d.im, .int .i64 d.den], .bool true]) (by simp [results, Try.results49, go_sem]) rfl (M4Out.yes (f := ⟨a, b, c, d⟩) rfl rfl ?_)
    (repeat' first | exact Below.refl _ _ | apply bl_alloc | apply bl_drewN | apply bl_drew | refine bl_trans ?_ (by assumption) | refine bl_set ?_ (by first | omega | (simp <;> omega)) _)
end Go.Proofs.Ytmfiiambannecaa
