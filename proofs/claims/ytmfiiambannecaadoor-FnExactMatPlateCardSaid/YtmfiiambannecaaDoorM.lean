/- Contracts of the laws' helpers: matrices, numbers, vectors to the program's types, and their comparison with themselves. -/
import Derived.Test.YtmfiiambannecaaDoorL
namespace Go.Proofs.YtmfiiambannecaaDoor
open Go.RowKit Pol

set_option maxRecDepth 100000 in
set_option maxHeartbeats 1000000 in
theorem toMat_any (m : M4) (w : World) :
    Calls Tryd.prog 7 #[.agg #[.int .i64 m.a.re, .int .i64 m.a.im, .int .i64 m.a.den, .int .i64 m.b.re, .int .i64 m.b.im, .int .i64 m.b.den, .int .i64 m.c.re, .int .i64 m.c.im, .int .i64 m.c.den, .int .i64 m.d.re, .int .i64 m.d.im, .int .i64 m.d.den]] w fun e w' => e = .returned (.agg #[.int .i64 m.a.re, .int .i64 m.a.im, .int .i64 m.a.den, .int .i64 m.b.re, .int .i64 m.b.im, .int .i64 m.b.den, .int .i64 m.c.re, .int .i64 m.c.im, .int .i64 m.c.den, .int .i64 m.d.re, .int .i64 m.d.im, .int .i64 m.d.den]) ∧ Below w.heap.size w w' := by
  go_enter Tryd.func7, Tryd.ntmps7
  go_wp2_with fail
  refine (toFracA4_cl m _).mono ?_
  rintro e w1 ⟨rfl, hb⟩
  have r2 : Room w1 (w.heap.size + 1 + 1) 4 := (Room.new' (by simp) rfl).below hb (by simp)
  have r1 : Room w1 (w.heap.size + 1) 4 := ((Room.new' (by simp) rfl).alloc (by simp) _).below hb (by simp)
  have hbw : Below w.heap.size w w1 := by (repeat' first | exact Below.refl _ _ | apply bl_alloc | apply bl_drewN | apply bl_drew | refine bl_trans ?_ (by assumption) | refine bl_set ?_ (by first | omega | (simp <;> omega)) _)
  have hz : w.heap.size + 1 + 1 + 1 ≤ w1.heap.size := by have := hb.size; simpa using this
  have H2 := Lib.hid r2; have H1 := Lib.hid r1; have HB := Lib.hid hbw; clear r1 r2 hbw hb
  go_wp2_with (first
    | ((with_reducible refine wpList_store_mid ?g1 29 ?gx ?gy ?g2 (w.heap.size + 1 + 1) 0 (cl m.get 4).toArray ?g3 ?g4 ?g5 ?g6 ?g7 ?g8); (case g2 => rfl); (case g1 => rfl); (case g3 => rfl); (case g4 => rfl); (case g5 => exact (H2.out.thereC m.get)); (case g6 => kernel_rfl); (case g7 => exact (cl_one _ _)))
    | ((with_reducible refine wpList_load_mid ?k1 31 ?kx ?k2 (w.heap.size + 1 + 1) 0 ?k3 (cl m.get 4) ?kd ?k4 ?k5 ?k6 ?k7 ?k8); (case k2 => rfl); (case k1 => rfl); (case k3 => rfl); (case k4 => exact (World.rangeAt_setCells_same _ _ _ _ (H2.out.thereC m.get))); (case k5 => exact Tryd.underlying31); (case k6 => rfl); (case k7 => kernel_rfl))
    | ((with_reducible refine wpList_store_mid ?h1 31 ?hx ?hy ?h2 (w.heap.size + 1) 0 (cl m.get 4).toArray ?h3 ?h4 ?h5 ?h6 ?h7 ?h8); (case h2 => rfl); (case h1 => rfl); (case h3 => rfl); (case h4 => rfl); (case h5 => exact (World.there_setCells (H1.out.thereC m.get) _ _ _)); (case h6 => kernel_rfl); (case h7 => exact (cl_one _ _))))
  refine bodyPost_ret (v := .agg (cl m.get 4).toArray) (results_cell_mid rfl _ _ (w.heap.size + 1) (cl m.get 4) _ (by rfl) (World.rangeAt_setCells_same _ _ _ _ (World.there_setCells (H1.out.thereC m.get) _ _ _)) Tryd.underlying31 rfl (by kernel_rfl)) rfl ⟨congrArg (fun c => Ending.returned (.agg c)) (cl4 m), ?_⟩
  exact setCells_below _ _ _ (setCells_below _ _ _ HB.out (by omega)) (by omega)
set_option maxRecDepth 100000 in
set_option maxHeartbeats 1000000 in
theorem toStokes_any (m : M4) (w : World) :
    Calls Tryd.prog 13 #[.agg #[.int .i64 m.a.re, .int .i64 m.a.im, .int .i64 m.a.den, .int .i64 m.b.re, .int .i64 m.b.im, .int .i64 m.b.den, .int .i64 m.c.re, .int .i64 m.c.im, .int .i64 m.c.den, .int .i64 m.d.re, .int .i64 m.d.im, .int .i64 m.d.den]] w fun e w' => e = .returned (.agg #[.int .i64 m.a.re, .int .i64 m.a.im, .int .i64 m.a.den, .int .i64 m.b.re, .int .i64 m.b.im, .int .i64 m.b.den, .int .i64 m.c.re, .int .i64 m.c.im, .int .i64 m.c.den, .int .i64 m.d.re, .int .i64 m.d.im, .int .i64 m.d.den]) ∧ Below w.heap.size w w' := by
  go_enter Tryd.func13, Tryd.ntmps13
  go_wp2_with fail
  refine (toFracA4_cl m _).mono ?_
  rintro e w1 ⟨rfl, hb⟩
  have r2 : Room w1 (w.heap.size + 1 + 1) 4 := (Room.new' (by simp) rfl).below hb (by simp)
  have r1 : Room w1 (w.heap.size + 1) 4 := ((Room.new' (by simp) rfl).alloc (by simp) _).below hb (by simp)
  have hbw : Below w.heap.size w w1 := by (repeat' first | exact Below.refl _ _ | apply bl_alloc | apply bl_drewN | apply bl_drew | refine bl_trans ?_ (by assumption) | refine bl_set ?_ (by first | omega | (simp <;> omega)) _)
  have hz : w.heap.size + 1 + 1 + 1 ≤ w1.heap.size := by have := hb.size; simpa using this
  have H2 := Lib.hid r2; have H1 := Lib.hid r1; have HB := Lib.hid hbw; clear r1 r2 hbw hb
  go_wp2_with (first
    | ((with_reducible refine wpList_store_mid ?g1 29 ?gx ?gy ?g2 (w.heap.size + 1 + 1) 0 (cl m.get 4).toArray ?g3 ?g4 ?g5 ?g6 ?g7 ?g8); (case g2 => rfl); (case g1 => rfl); (case g3 => rfl); (case g4 => rfl); (case g5 => exact (H2.out.thereC m.get)); (case g6 => kernel_rfl); (case g7 => exact (cl_one _ _)))
    | ((with_reducible refine wpList_load_mid ?k1 45 ?kx ?k2 (w.heap.size + 1 + 1) 0 ?k3 (cl m.get 4) ?kd ?k4 ?k5 ?k6 ?k7 ?k8); (case k2 => rfl); (case k1 => rfl); (case k3 => rfl); (case k4 => exact (World.rangeAt_setCells_same _ _ _ _ (H2.out.thereC m.get))); (case k5 => exact Tryd.underlying45); (case k6 => rfl); (case k7 => kernel_rfl))
    | ((with_reducible refine wpList_store_mid ?h1 45 ?hx ?hy ?h2 (w.heap.size + 1) 0 (cl m.get 4).toArray ?h3 ?h4 ?h5 ?h6 ?h7 ?h8); (case h2 => rfl); (case h1 => rfl); (case h3 => rfl); (case h4 => rfl); (case h5 => exact (World.there_setCells (H1.out.thereC m.get) _ _ _)); (case h6 => kernel_rfl); (case h7 => exact (cl_one _ _))))
  refine bodyPost_ret (v := .agg (cl m.get 4).toArray) (results_cell_mid rfl _ _ (w.heap.size + 1) (cl m.get 4) _ (by rfl) (World.rangeAt_setCells_same _ _ _ _ (World.there_setCells (H1.out.thereC m.get) _ _ _)) Tryd.underlying45 rfl (by kernel_rfl)) rfl ⟨congrArg (fun c => Ending.returned (.agg c)) (cl4 m), ?_⟩
  exact setCells_below _ _ _ (setCells_below _ _ _ HB.out (by omega)) (by omega)
set_option maxRecDepth 100000 in
set_option maxHeartbeats 2000000 in
theorem eqFrac_same (a : Fr) (w : World) :
    Calls Tryd.prog 38 #[.agg #[.int .i64 a.re, .int .i64 a.im, .int .i64 a.den], .agg #[.int .i64 a.re, .int .i64 a.im, .int .i64 a.den]] w fun e w' => e = .returned (.bool true) ∧ Below w.heap.size w w' := by
  go_enter Tryd.func38, Tryd.ntmps38
  go_wp2
  go_ret
  exact ⟨rfl, by (repeat' first | exact Below.refl _ _ | apply bl_alloc | apply bl_drewN | apply bl_drew | refine bl_trans ?_ (by assumption) | refine bl_set ?_ (by first | omega | (simp <;> omega)) _)⟩
structure ERel (W : World) (g : Nat → Fr) (n k : Nat) (wr : World) : Prop where
  le : k ≤ n
  below : Below W.heap.size W wr
  size : W.heap.size + 1 + 1 ≤ wr.heap.size
  one : BoxAt wr W.heap.size g n
  two : BoxAt wr (W.heap.size + 1) g n
def ER (W : World) (g : Nat → Fr) (n : Nat) (i : Value) (wr : World) : Prop := ∃ k : Nat, i = .int .i64 k ∧ ERel W g n k wr
theorem ERel.step {W wr w1 : World} {g : Nat → Fr} {n k : Nat} (h : ERel W g n k wr) (hk : k < n) (hb : Below wr.heap.size wr w1) : ERel W g n (k + 1) w1 := by
  have hs := h.size
  exact ⟨hk, h.below.trans (hb.mono h.below.size), Nat.le_trans hs hb.size, h.one.below hb (by omega), h.two.below hb (by omega)⟩
theorem ERel.drewN {W wr : World} {g : Nat → Fr} {n k q : Nat} (h : ERel W g n k wr) : ERel W g n k (wr.drewN q) := ⟨h.le, below_drewN h.below q, h.size, h.one, h.two⟩
set_option maxHeartbeats 1000000 in
theorem eqFracA4_same (m : M4) (w : World) :
    Calls Tryd.prog 27 #[.agg #[.int .i64 m.a.re, .int .i64 m.a.im, .int .i64 m.a.den, .int .i64 m.b.re, .int .i64 m.b.im, .int .i64 m.b.den, .int .i64 m.c.re, .int .i64 m.c.im, .int .i64 m.c.den, .int .i64 m.d.re, .int .i64 m.d.im, .int .i64 m.d.den], .agg #[.int .i64 m.a.re, .int .i64 m.a.im, .int .i64 m.a.den, .int .i64 m.b.re, .int .i64 m.b.im, .int .i64 m.b.den, .int .i64 m.c.re, .int .i64 m.c.im, .int .i64 m.c.den, .int .i64 m.d.re, .int .i64 m.d.im, .int .i64 m.d.den]] w fun e w' => e = .returned (.bool true) ∧ Below w.heap.size w w' := by
  have HS : Hid (∀ k, k < 4 → (#[.int .i64 m.a.re, .int .i64 m.a.im, .int .i64 m.a.den, .int .i64 m.b.re, .int .i64 m.b.im, .int .i64 m.b.den, .int .i64 m.c.re, .int .i64 m.c.im, .int .i64 m.c.den, .int .i64 m.d.re, .int .i64 m.d.im, .int .i64 m.d.den] : Array Value)[k * 3]? = some (.int .i64 (m.get k).re) ∧ (#[.int .i64 m.a.re, .int .i64 m.a.im, .int .i64 m.a.den, .int .i64 m.b.re, .int .i64 m.b.im, .int .i64 m.b.den, .int .i64 m.c.re, .int .i64 m.c.im, .int .i64 m.c.den, .int .i64 m.d.re, .int .i64 m.d.im, .int .i64 m.d.den] : Array Value)[k * 3 + 1]? = some (.int .i64 (m.get k).im) ∧ (#[.int .i64 m.a.re, .int .i64 m.a.im, .int .i64 m.a.den, .int .i64 m.b.re, .int .i64 m.b.im, .int .i64 m.b.den, .int .i64 m.c.re, .int .i64 m.c.im, .int .i64 m.c.den, .int .i64 m.d.re, .int .i64 m.d.im, .int .i64 m.d.den] : Array Value)[k * 3 + 2]? = some (.int .i64 (m.get k).den)) := by
    intro k hk
    have : k = 0 ∨ k = 1 ∨ k = 2 ∨ k = 3 := by omega
    rcases this with rfl | rfl | rfl | rfl <;> exact ⟨rfl, rfl, rfl⟩
  go_enter Tryd.func27, Tryd.ntmps27
  go_wp2
  go_loopw [5] (fun i wr => ER w m.get 4 i wr) (fun i _ => (4 - intOf i).toNat)
  case atStart =>
    refine ⟨0, rfl, by omega, by (repeat' first | exact Below.refl _ _ | apply bl_alloc | apply bl_drewN | apply bl_drew | refine bl_trans ?_ (by assumption) | refine bl_set ?_ (by first | omega | (simp <;> omega)) _), by simp, (BoxAt.new _ _ _ _ _ HS.out).alloc (by simp) _, BoxAt.new' (by simp) HS.out⟩
  case round =>
    obtain ⟨k, rfl, hT⟩ := hrel
    by_cases h4 : k < 4
    · obtain ⟨c0, c1, c2⟩ := hT.one k h4
      obtain ⟨d0, d1, d2⟩ := hT.two k h4
      have hs := hT.size
      have i0 : (0 : Int) ≤ (k : Int) := by omega
      have i1 : (k : Int) < 4 := by omega
      go_wp2
      go_region_held3 (fun w' => w'.cell? ⟨w.heap.size, k * 3, none⟩ = some (.int .i64 (m.get k).re) ∧ w'.cell? ⟨w.heap.size, k * 3 + 1, none⟩ = some (.int .i64 (m.get k).im) ∧ w'.cell? ⟨w.heap.size, k * 3 + 2, none⟩ = some (.int .i64 (m.get k).den) ∧ w'.cell? ⟨w.heap.size + 1, k * 3, none⟩ = some (.int .i64 (m.get k).re) ∧ w'.cell? ⟨w.heap.size + 1, k * 3 + 1, none⟩ = some (.int .i64 (m.get k).im) ∧ w'.cell? ⟨w.heap.size + 1, k * 3 + 2, none⟩ = some (.int .i64 (m.get k).den))
        (go_keep)
        (first | (go_at_call 38; (with_reducible refine (eqFrac_same _ _).mono ?_); rintro e w1 ⟨rfl, hb⟩; have hb' := hb; obtain ⟨hc, hf, hz⟩ := bcellk (B := w.heap.size + 1 + 1) hb (by first | omega | (simp <;> omega))))
      go_wp2
      go_roundw
      case rel => exact ⟨k + 1, by go_num, hT.drewN.step h4 hb'⟩
      case measure => simp [intOf]; omega
    · obtain rfl : k = 4 := by have := hT.le; omega
      go_wp2
      go_ret
      exact ⟨rfl, hT.below⟩
set_option maxRecDepth 100000 in
set_option maxHeartbeats 2000000 in
theorem eqMat_same (m : M4) (w : World) :
    Calls Tryd.prog 11 #[.agg #[.int .i64 m.a.re, .int .i64 m.a.im, .int .i64 m.a.den, .int .i64 m.b.re, .int .i64 m.b.im, .int .i64 m.b.den, .int .i64 m.c.re, .int .i64 m.c.im, .int .i64 m.c.den, .int .i64 m.d.re, .int .i64 m.d.im, .int .i64 m.d.den], .agg #[.int .i64 m.a.re, .int .i64 m.a.im, .int .i64 m.a.den, .int .i64 m.b.re, .int .i64 m.b.im, .int .i64 m.b.den, .int .i64 m.c.re, .int .i64 m.c.im, .int .i64 m.c.den, .int .i64 m.d.re, .int .i64 m.d.im, .int .i64 m.d.den]] w fun e w' => e = .returned (.bool true) ∧ Below w.heap.size w w' := by
  go_enter Tryd.func11, Tryd.ntmps11
  go_wp2_with (go_at_call 27; (with_reducible refine (eqFracA4_same m _).mono ?_); rintro e w' ⟨rfl, hb⟩; obtain ⟨hc, hf, hz⟩ := bcellk (B := w.heap.size + 1 + 1) hb (by first | omega | (simp <;> omega)))
  go_ret
  exact ⟨rfl, by (repeat' first | exact Below.refl _ _ | apply bl_alloc | apply bl_drewN | apply bl_drew | refine bl_trans ?_ (by assumption) | refine bl_set ?_ (by first | omega | (simp <;> omega)) _)⟩
end Go.Proofs.YtmfiiambannecaaDoor
