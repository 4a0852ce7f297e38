/- Contracts of the laws' helpers: matrices, numbers, vectors to the program's types, and their comparison with themselves. -/
import Derived.Test.YtmcokdiopcpifaaDoorL
set_option maxRecDepth 100000
namespace Go.Proofs.YtmcokdiopcpifaaDoor
open Go.RowKit Pol

set_option maxRecDepth 100000 in
set_option maxHeartbeats 1000000 in
theorem toMat_any (m : M4) (w : World) :
    Calls Tryd.prog 22 #[.agg #[.int .i64 m.a.re, .int .i64 m.a.im, .int .i64 m.a.den, .int .i64 m.b.re, .int .i64 m.b.im, .int .i64 m.b.den, .int .i64 m.c.re, .int .i64 m.c.im, .int .i64 m.c.den, .int .i64 m.d.re, .int .i64 m.d.im, .int .i64 m.d.den]] w fun e w' => e = .returned (.agg #[.int .i64 m.a.re, .int .i64 m.a.im, .int .i64 m.a.den, .int .i64 m.b.re, .int .i64 m.b.im, .int .i64 m.b.den, .int .i64 m.c.re, .int .i64 m.c.im, .int .i64 m.c.den, .int .i64 m.d.re, .int .i64 m.d.im, .int .i64 m.d.den]) ∧ Below w.heap.size w w' := by
  go_enter Tryd.func22, Tryd.ntmps22
  go_wp2_with fail
  refine (toFracA4_cl m _).mono ?_
  rintro e w1 ⟨rfl, hb⟩
  have r2 : Room w1 (w.heap.size + 1 + 1) 4 := (Room.new' (by simp) rfl).below hb (by simp)
  have r1 : Room w1 (w.heap.size + 1) 4 := ((Room.new' (by simp) rfl).alloc (by simp) _).below hb (by simp)
  have hbw : Below w.heap.size w w1 := by (repeat' first | exact Below.refl _ _ | apply bl_alloc | apply bl_drewN | apply bl_drew | refine bl_trans ?_ (by assumption) | refine bl_set ?_ (by first | omega | (simp <;> omega)) _)
  have hz : w.heap.size + 1 + 1 + 1 ≤ w1.heap.size := by have := hb.size; simpa using this
  have H2 := Lib.hid r2; have H1 := Lib.hid r1; have HB := Lib.hid hbw; clear r1 r2 hbw hb
  go_wp2_with (first
    | ((with_reducible refine wpList_store_mid ?g1 39 ?gx ?gy ?g2 (w.heap.size + 1 + 1) 0 (cl m.get 4).toArray ?g3 ?g4 ?g5 ?g6 ?g7 ?g8); (case g2 => rfl); (case g1 => rfl); (case g3 => rfl); (case g4 => rfl); (case g5 => exact (H2.out.thereC m.get)); (case g6 => kernel_rfl); (case g7 => exact (cl_one _ _)))
    | ((with_reducible refine wpList_load_mid ?k1 41 ?kx ?k2 (w.heap.size + 1 + 1) 0 ?k3 (cl m.get 4) ?kd ?k4 ?k5 ?k6 ?k7 ?k8); (case k2 => rfl); (case k1 => rfl); (case k3 => rfl); (case k4 => exact (World.rangeAt_setCells_same _ _ _ _ (H2.out.thereC m.get))); (case k5 => exact Tryd.underlying41); (case k6 => rfl); (case k7 => kernel_rfl))
    | ((with_reducible refine wpList_store_mid ?h1 41 ?hx ?hy ?h2 (w.heap.size + 1) 0 (cl m.get 4).toArray ?h3 ?h4 ?h5 ?h6 ?h7 ?h8); (case h2 => rfl); (case h1 => rfl); (case h3 => rfl); (case h4 => rfl); (case h5 => exact (World.there_setCells (H1.out.thereC m.get) _ _ _)); (case h6 => kernel_rfl); (case h7 => exact (cl_one _ _))))
  refine bodyPost_ret (v := .agg (cl m.get 4).toArray) (results_cell_mid rfl _ _ (w.heap.size + 1) (cl m.get 4) _ (by rfl) (World.rangeAt_setCells_same _ _ _ _ (World.there_setCells (H1.out.thereC m.get) _ _ _)) Tryd.underlying41 rfl (by kernel_rfl)) rfl ⟨congrArg (fun c => Ending.returned (.agg c)) (cl4 m), ?_⟩
  exact setCells_below _ _ _ (setCells_below _ _ _ HB.out (by omega)) (by omega)
set_option maxRecDepth 100000 in
set_option maxHeartbeats 1000000 in
theorem toStokes_any (m : M4) (w : World) :
    Calls Tryd.prog 25 #[.agg #[.int .i64 m.a.re, .int .i64 m.a.im, .int .i64 m.a.den, .int .i64 m.b.re, .int .i64 m.b.im, .int .i64 m.b.den, .int .i64 m.c.re, .int .i64 m.c.im, .int .i64 m.c.den, .int .i64 m.d.re, .int .i64 m.d.im, .int .i64 m.d.den]] w fun e w' => e = .returned (.agg #[.int .i64 m.a.re, .int .i64 m.a.im, .int .i64 m.a.den, .int .i64 m.b.re, .int .i64 m.b.im, .int .i64 m.b.den, .int .i64 m.c.re, .int .i64 m.c.im, .int .i64 m.c.den, .int .i64 m.d.re, .int .i64 m.d.im, .int .i64 m.d.den]) ∧ Below w.heap.size w w' := by
  go_enter Tryd.func25, Tryd.ntmps25
  go_wp2_with fail
  refine (toFracA4_cl m _).mono ?_
  rintro e w1 ⟨rfl, hb⟩
  have r2 : Room w1 (w.heap.size + 1 + 1) 4 := (Room.new' (by simp) rfl).below hb (by simp)
  have r1 : Room w1 (w.heap.size + 1) 4 := ((Room.new' (by simp) rfl).alloc (by simp) _).below hb (by simp)
  have hbw : Below w.heap.size w w1 := by (repeat' first | exact Below.refl _ _ | apply bl_alloc | apply bl_drewN | apply bl_drew | refine bl_trans ?_ (by assumption) | refine bl_set ?_ (by first | omega | (simp <;> omega)) _)
  have hz : w.heap.size + 1 + 1 + 1 ≤ w1.heap.size := by have := hb.size; simpa using this
  have H2 := Lib.hid r2; have H1 := Lib.hid r1; have HB := Lib.hid hbw; clear r1 r2 hbw hb
  go_wp2_with (first
    | ((with_reducible refine wpList_store_mid ?g1 39 ?gx ?gy ?g2 (w.heap.size + 1 + 1) 0 (cl m.get 4).toArray ?g3 ?g4 ?g5 ?g6 ?g7 ?g8); (case g2 => rfl); (case g1 => rfl); (case g3 => rfl); (case g4 => rfl); (case g5 => exact (H2.out.thereC m.get)); (case g6 => kernel_rfl); (case g7 => exact (cl_one _ _)))
    | ((with_reducible refine wpList_load_mid ?k1 51 ?kx ?k2 (w.heap.size + 1 + 1) 0 ?k3 (cl m.get 4) ?kd ?k4 ?k5 ?k6 ?k7 ?k8); (case k2 => rfl); (case k1 => rfl); (case k3 => rfl); (case k4 => exact (World.rangeAt_setCells_same _ _ _ _ (H2.out.thereC m.get))); (case k5 => exact Tryd.underlying51); (case k6 => rfl); (case k7 => kernel_rfl))
    | ((with_reducible refine wpList_store_mid ?h1 51 ?hx ?hy ?h2 (w.heap.size + 1) 0 (cl m.get 4).toArray ?h3 ?h4 ?h5 ?h6 ?h7 ?h8); (case h2 => rfl); (case h1 => rfl); (case h3 => rfl); (case h4 => rfl); (case h5 => exact (World.there_setCells (H1.out.thereC m.get) _ _ _)); (case h6 => kernel_rfl); (case h7 => exact (cl_one _ _))))
  refine bodyPost_ret (v := .agg (cl m.get 4).toArray) (results_cell_mid rfl _ _ (w.heap.size + 1) (cl m.get 4) _ (by rfl) (World.rangeAt_setCells_same _ _ _ _ (World.there_setCells (H1.out.thereC m.get) _ _ _)) Tryd.underlying51 rfl (by kernel_rfl)) rfl ⟨congrArg (fun c => Ending.returned (.agg c)) (cl4 m), ?_⟩
  exact setCells_below _ _ _ (setCells_below _ _ _ HB.out (by omega)) (by omega)
set_option maxRecDepth 100000 in
set_option maxHeartbeats 2000000 in
theorem eqFrac_same (a : Fr) (w : World) :
    Calls Tryd.prog 81 #[.agg #[.int .i64 a.re, .int .i64 a.im, .int .i64 a.den], .agg #[.int .i64 a.re, .int .i64 a.im, .int .i64 a.den]] w fun e w' => e = .returned (.bool true) ∧ Below w.heap.size w w' := by
  go_enter Tryd.func81, Tryd.ntmps81
  go_wp2
  go_ret
  exact ⟨rfl, by (repeat' first | exact Below.refl _ _ | apply bl_alloc | apply bl_drewN | apply bl_drew | refine bl_trans ?_ (by assumption) | refine bl_set ?_ (by first | omega | (simp <;> omega)) _)⟩
end Go.Proofs.YtmcokdiopcpifaaDoor
