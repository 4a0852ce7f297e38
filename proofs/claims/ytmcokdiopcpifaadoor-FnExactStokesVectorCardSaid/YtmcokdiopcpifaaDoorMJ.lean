/- Contract: two equal vectors are equal. -/
import Derived.Test.YtmcokdiopcpifaaDoorM
import Derived.Test.YtmcokdiopcpifaaDoorJ
set_option maxRecDepth 100000
namespace Go.Proofs.YtmcokdiopcpifaaDoor
open Go.RowKit Pol

set_option maxHeartbeats 2000000 in
theorem eqJones_same (a : J2) (w : World) :
    Calls Tryd.prog 27 #[.agg #[.int .i64 a.x.re, .int .i64 a.x.im, .int .i64 a.x.den, .int .i64 a.y.re, .int .i64 a.y.im, .int .i64 a.y.den], .agg #[.int .i64 a.x.re, .int .i64 a.x.im, .int .i64 a.x.den, .int .i64 a.y.re, .int .i64 a.y.im, .int .i64 a.y.den]] w fun e w' => e = .returned (.bool true) ∧ Below w.heap.size w w' := by
  go_enter Tryd.func27, Tryd.ntmps27
  go_wp2_with fail
  refine (eqFrac_same a.x _).mono ?_
  rintro e w1 ⟨rfl, hb⟩
  have hb' := hb
  obtain ⟨hc, hf, hz⟩ := bcellk (B := w.heap.size + 1 + 1) hb (by first | omega | (simp <;> omega))
  have HB := Lib.hid (show Below w.heap.size w w1 from by (repeat' first | exact Below.refl _ _ | apply bl_alloc | apply bl_drewN | apply bl_drew | refine bl_trans ?_ (by assumption) | refine bl_set ?_ (by first | omega | (simp <;> omega)) _))
  clear hb hb'
  go_wp2_with fail
  refine (eqFrac_same a.y _).mono ?_
  rintro e w2 ⟨rfl, hb⟩
  have HB := Lib.hid (show Below w.heap.size w w2 from HB.out.trans (hb.mono HB.out.size))
  clear hb
  go_wp2
  go_ret
  exact ⟨rfl, HB.out⟩
end Go.Proofs.YtmcokdiopcpifaaDoor
