/- Contracts of the laws' helpers: tables. -/
import Derived.Test.YtjigckagmgilbaaLT
import Derived.Test.YtjigckagmgilbaaM
namespace Go.Proofs.Ytjigckagmgilbaa
open Go.RowKit Pol

theorem toFracA16_cc (m : M16) (w : World) :
    Calls Try.prog 40 #[.agg (cl m.get 16).toArray] w fun e w' => e = .returned (.agg (cl m.get 16).toArray) ∧ Below w.heap.size w w' :=
  (congrArg (fun c => Calls Try.prog 40 #[.agg c] w fun e w' => e = .returned (.agg (cl m.get 16).toArray) ∧ Below w.heap.size w w') (cl16 m)).mpr (toFracA16_cl m w)
set_option maxRecDepth 100000 in
set_option maxHeartbeats 1000000 in
theorem toTable_cc (m : M16) (w : World) :
    Calls Try.prog 19 #[.agg (cl m.get 16).toArray] w fun e w' => e = .returned (.agg (cl m.get 16).toArray) ∧ Below w.heap.size w w' := by
  go_enter Try.func19, Try.ntmps19
  have r0 : (w.alloc (.cells (cl m.get 16).toArray 43)).rangeAt w.heap.size 0 (cl m.get 16) := rangeAt_new _ _ _
  have R0 := Lib.hid r0; clear r0
  go_wp2_with ((with_reducible refine wpList_load_mid ?a1 41 ?ax ?a2 (w.heap.size) 0 ?a3 (cl m.get 16) ?ad ?a4 ?a5 ?a6 ?a7 ?a8); (case a2 => rfl); (case a1 => rfl); (case a3 => rfl); (case a4 => (first | exact R0.out | exact rangeAt_below (rangeAt_below R0.out (Below.alloc (Below.refl _ _) (Nat.le_refl _) _) (by simp)) (Below.alloc (Below.refl _ _) (Nat.le_refl _) _) (by simp))); (case a5 => exact Try.underlying41); (case a6 => rfl); (case a7 => kernel_rfl))
  refine (toFracA16_cc m _).mono ?_
  rintro e w1 ⟨rfl, hb⟩
  have r2 : Room w1 (w.heap.size + 1 + 1) 16 := (Room.new' (by simp) rfl).below hb (by simp)
  have r1 : Room w1 (w.heap.size + 1) 16 := ((Room.new' (by simp) rfl).alloc (by simp) _).below hb (by simp)
  have hbw : Below w.heap.size w w1 := by (repeat' first | exact Below.refl _ _ | apply bl_alloc | apply bl_drewN | apply bl_drew | refine bl_trans ?_ (by assumption) | refine bl_set ?_ (by first | omega | (simp <;> omega)) _)
  have hz : w.heap.size + 1 + 1 + 1 ≤ w1.heap.size := by have := hb.size; simpa using this
  have H2 := Lib.hid r2; have H1 := Lib.hid r1; have HB := Lib.hid hbw; clear r1 r2 hbw hb
  go_wp2_with (first
    | ((with_reducible refine wpList_store_mid ?g1 45 ?gx ?gy ?g2 (w.heap.size + 1 + 1) 0 (cl m.get 16).toArray ?g3 ?g4 ?g5 ?g6 ?g7 ?g8); (case g2 => rfl); (case g1 => rfl); (case g3 => rfl); (case g4 => rfl); (case g5 => exact (H2.out.thereC m.get)); (case g6 => kernel_rfl); (case g7 => exact (cl_one _ _)))
    | ((with_reducible refine wpList_load_mid ?k1 47 ?kx ?k2 (w.heap.size + 1 + 1) 0 ?k3 (cl m.get 16) ?kd ?k4 ?k5 ?k6 ?k7 ?k8); (case k2 => rfl); (case k1 => rfl); (case k3 => rfl); (case k4 => exact (World.rangeAt_setCells_same _ _ _ _ (H2.out.thereC m.get))); (case k5 => exact Try.underlying47); (case k6 => rfl); (case k7 => kernel_rfl))
    | ((with_reducible refine wpList_store_mid ?h1 47 ?hx ?hy ?h2 (w.heap.size + 1) 0 (cl m.get 16).toArray ?h3 ?h4 ?h5 ?h6 ?h7 ?h8); (case h2 => rfl); (case h1 => rfl); (case h3 => rfl); (case h4 => rfl); (case h5 => exact (World.there_setCells (H1.out.thereC m.get) _ _ _)); (case h6 => kernel_rfl); (case h7 => exact (cl_one _ _))))
  refine bodyPost_ret (v := .agg (cl m.get 16).toArray) (results_cell_mid rfl _ _ (w.heap.size + 1) (cl m.get 16) _ (by rfl) (World.rangeAt_setCells_same _ _ _ _ (World.there_setCells (H1.out.thereC m.get) _ _ _)) Try.underlying47 rfl (by kernel_rfl)) rfl ⟨rfl, ?_⟩
  exact setCells_below _ _ _ (setCells_below _ _ _ HB.out (by omega)) (by omega)
end Go.Proofs.Ytjigckagmgilbaa
