/- Contract: a diagonal matrix. -/
import Derived.Test.YtmcokdiopcpifaaDoorL
import Derived.Test.YtmcokdiopcpifaaDoorV
set_option maxRecDepth 100000
namespace Go.Proofs.YtmcokdiopcpifaaDoor
open Go.RowKit Pol

set_option maxRecDepth 100000 in
set_option maxHeartbeats 4000000 in
theorem l5One_any (a b : Fr) (w : World) : Calls Tryd.prog 108 #[.agg #[.int .i64 a.re, .int .i64 a.im, .int .i64 a.den], .agg #[.int .i64 b.re, .int .i64 b.im, .int .i64 b.den]] w fun e w' => e = .returned (.agg #[.int .i64 a.re, .int .i64 a.im, .int .i64 a.den, .int .i64 0, .int .i64 0, .int .i64 1, .int .i64 0, .int .i64 0, .int .i64 1, .int .i64 b.re, .int .i64 b.im, .int .i64 b.den]) ∧ Below w.heap.size w w' := by
  go_enter Tryd.func108, Tryd.ntmps108
  go_wp2
  refine bodyPost_ret (v := .agg #[.int .i64 a.re, .int .i64 a.im, .int .i64 a.den, .int .i64 0, .int .i64 0, .int .i64 1, .int .i64 0, .int .i64 0, .int .i64 1, .int .i64 b.re, .int .i64 b.im, .int .i64 b.den]) (by simp [results, Tryd.results108, go_sem]) rfl ⟨rfl, ?_⟩
  (repeat' first | exact Below.refl _ _ | apply bl_alloc | apply bl_drewN | apply bl_drew | refine bl_trans ?_ (by assumption) | refine bl_set ?_ (by first | omega | (simp <;> omega)) _)
end Go.Proofs.YtmcokdiopcpifaaDoor
