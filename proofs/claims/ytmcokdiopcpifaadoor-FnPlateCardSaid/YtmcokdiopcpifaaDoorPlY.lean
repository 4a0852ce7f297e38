/- Contracts: the mirrored numbers. -/
import Derived.Test.YtmcokdiopcpifaaDoorPlG4
import Derived.Test.YtmcokdiopcpifaaDoorPlN
import Derived.Test.YtmcokdiopcpifaaDoorPlT
set_option maxRecDepth 100000
namespace Go.Proofs.YtmcokdiopcpifaaDoor
open Go.RowKit Pol
set_option maxHeartbeats 1000000 in
theorem opposite_any (a : Fr) (h1 : -2000000000 ≤ a.re) (h2 : a.re ≤ 2000000000) (h3 : a.im = 0) (w : World) :
    Calls Tryd.prog 134 #[.agg #[.int .i64 a.re, .int .i64 a.im, .int .i64 a.den]] w fun e w' => e = .returned (.agg #[.int .i64 (-a.re), .int .i64 a.im, .int .i64 a.den]) ∧ Below w.heap.size w w' := by
  have H3 := Lib.hid h3
  have h4 : -2000000000 ≤ a.im := by omega
  have h5 : a.im ≤ 2000000000 := by omega
  clear h3
  go_enter Tryd.func134, Tryd.ntmps134
  go_wp2
  refine bodyPost_ret (v := .agg #[.int .i64 (-a.re), .int .i64 (-a.im), .int .i64 a.den]) (by simp [results, Tryd.results134, go_sem]) rfl ⟨by rw [H3.out]; rfl, ?_⟩
  (repeat' first | exact Below.refl _ _ | apply bl_alloc | apply bl_drewN | apply bl_drew | refine bl_trans ?_ (by assumption) | refine bl_set ?_ (by first | omega | (simp <;> omega)) _)
end Go.Proofs.YtmcokdiopcpifaaDoor
