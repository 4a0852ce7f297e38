/- Contracts: the mirrored numbers. -/
import Derived.Test.YtlmpbijhidnekaaF
import Derived.Test.YtlmpbijhidnekaaN
import Derived.Test.YtlmpbijhidnekaaT
namespace Go.Proofs.Ytlmpbijhidnekaa
open Go.RowKit Pol

/-- The last of four with another one in its place. -/
def setD (m : M4) (f : Fr) : M4 := ⟨m.a, m.b, m.c, f⟩
theorem BoxAt.putD {w : World} {N : Nat} {m : M4} (h : BoxAt w N m.get 4) (r : Room w N 4) (f : Fr) : BoxAt (putF w N 3 f) N (setD m f).get 4 :=
  BoxAt.put (n := 4) (k := 3) (g := (setD m f).get) (fun k hk => by
    have h' := h k (by omega)
    have : k = 0 ∨ k = 1 ∨ k = 2 := by omega
    rcases this with rfl | rfl | rfl <;> exact h') r (by omega)
theorem BoxAt.setRe {w : World} {N : Nat} {m : M4} (h : BoxAt w N m.get 4) (r : Room w N 4) (x : Int) : BoxAt (w.setCell ⟨N, 9, none⟩ (.int .i64 x)) N (setD m ⟨x, m.d.im, m.d.den⟩).get 4 := fun k hk => by
  have h' := h k (by omega)
  have oth : ∀ p, 9 ≠ p → (w.setCell ⟨N, 9, none⟩ (.int .i64 x)).cell? ⟨N, p, none⟩ = w.cell? ⟨N, p, none⟩ := fun p hn => World.cell?_setCell_other _ _ _ _ (ne_off hn)
  have : k = 0 ∨ k = 1 ∨ k = 2 ∨ k = 3 := by omega
  rcases this with rfl | rfl | rfl | rfl
  · exact ⟨(oth _ (by omega)).trans h'.1, (oth _ (by omega)).trans h'.2.1, (oth _ (by omega)).trans h'.2.2⟩
  · exact ⟨(oth _ (by omega)).trans h'.1, (oth _ (by omega)).trans h'.2.1, (oth _ (by omega)).trans h'.2.2⟩
  · exact ⟨(oth _ (by omega)).trans h'.1, (oth _ (by omega)).trans h'.2.1, (oth _ (by omega)).trans h'.2.2⟩
  · exact ⟨World.cell?_setCell_same' _ _ _ (r 9 (by omega)).1, (oth _ (by omega)).trans h'.2.1, (oth _ (by omega)).trans h'.2.2⟩
theorem gMir_no {m : M4} (h : all4 realB m = false) : gMir m = (m4z, false) := by unfold gMir; rw [if_neg (by rw [h]; simp)]
theorem gMir_yes {m : M4} (h : all4 realB m = true) : gMir m = (setD m ⟨-m.d.re, m.d.im, m.d.den⟩, true) := by unfold gMir; rw [if_pos h]; rfl
theorem real_d {m : M4} (h : all4 realB m = true) : m.d.im = 0 ∧ -2000000000 ≤ m.d.re ∧ m.d.re ≤ 2000000000 := by
  obtain ⟨_, _, _, hd⟩ := all4_iff.1 h
  unfold realB at hd
  simp only [Bool.and_eq_true, decide_eq_true_eq] at hd
  exact ⟨hd.2, ((vld_iff _).1 hd.1).1⟩
theorem srcY (m : M4) (k : Nat) (hk : k < 4) : (#[.int .i64 m.a.re, .int .i64 m.a.im, .int .i64 m.a.den, .int .i64 m.b.re, .int .i64 m.b.im, .int .i64 m.b.den, .int .i64 m.c.re, .int .i64 m.c.im, .int .i64 m.c.den, .int .i64 m.d.re, .int .i64 m.d.im, .int .i64 m.d.den] : Array Value)[k * 3]? = some (.int .i64 (m.get k).re) ∧ (#[.int .i64 m.a.re, .int .i64 m.a.im, .int .i64 m.a.den, .int .i64 m.b.re, .int .i64 m.b.im, .int .i64 m.b.den, .int .i64 m.c.re, .int .i64 m.c.im, .int .i64 m.c.den, .int .i64 m.d.re, .int .i64 m.d.im, .int .i64 m.d.den] : Array Value)[k * 3 + 1]? = some (.int .i64 (m.get k).im) ∧ (#[.int .i64 m.a.re, .int .i64 m.a.im, .int .i64 m.a.den, .int .i64 m.b.re, .int .i64 m.b.im, .int .i64 m.b.den, .int .i64 m.c.re, .int .i64 m.c.im, .int .i64 m.c.den, .int .i64 m.d.re, .int .i64 m.d.im, .int .i64 m.d.den] : Array Value)[k * 3 + 2]? = some (.int .i64 (m.get k).den) := by
  have : k = 0 ∨ k = 1 ∨ k = 2 ∨ k = 3 := by omega
  rcases this with rfl | rfl | rfl | rfl <;> exact ⟨rfl, rfl, rfl⟩
set_option maxHeartbeats 1000000 in
theorem opposite_any (a : Fr) (h1 : -2000000000 ≤ a.re) (h2 : a.re ≤ 2000000000) (h3 : a.im = 0) (w : World) :
    Calls Try.prog 66 #[.agg #[.int .i64 a.re, .int .i64 a.im, .int .i64 a.den]] w fun e w' => e = .returned (.agg #[.int .i64 (-a.re), .int .i64 a.im, .int .i64 a.den]) ∧ Below w.heap.size w w' := by
  have H3 := Lib.hid h3
  have h4 : -2000000000 ≤ a.im := by omega
  have h5 : a.im ≤ 2000000000 := by omega
  clear h3
  go_enter Try.func66, Try.ntmps66
  go_wp2
  refine bodyPost_ret (v := .agg #[.int .i64 (-a.re), .int .i64 (-a.im), .int .i64 a.den]) (by simp [results, Try.results66, go_sem]) rfl ⟨by rw [H3.out]; rfl, ?_⟩
  (repeat' first | exact Below.refl _ _ | apply bl_alloc | apply bl_drewN | apply bl_drew | refine bl_trans ?_ (by assumption) | refine bl_set ?_ (by first | omega | (simp <;> omega)) _)
set_option maxRecDepth 100000 in
set_option maxHeartbeats 4000000 in
theorem imir_any (m : M4) (w : World) :
    Calls Try.prog 35 #[.agg #[.int .i64 m.a.re, .int .i64 m.a.im, .int .i64 m.a.den, .int .i64 m.b.re, .int .i64 m.b.im, .int .i64 m.b.den, .int .i64 m.c.re, .int .i64 m.c.im, .int .i64 m.c.den, .int .i64 m.d.re, .int .i64 m.d.im, .int .i64 m.d.den]] w (M4Out (gMir m) w) := by
  have hB0 : BoxAt ((w.alloc (.cells #[.int .i64 m.a.re, .int .i64 m.a.im, .int .i64 m.a.den, .int .i64 m.b.re, .int .i64 m.b.im, .int .i64 m.b.den, .int .i64 m.c.re, .int .i64 m.c.im, .int .i64 m.c.den, .int .i64 m.d.re, .int .i64 m.d.im, .int .i64 m.d.den] 45)).alloc (.cells #[.int .i64 0, .int .i64 0, .int .i64 0, .int .i64 0, .int .i64 0, .int .i64 0, .int .i64 0, .int .i64 0, .int .i64 0, .int .i64 0, .int .i64 0, .int .i64 0] 45)) w.heap.size m.get 4 := (BoxAt.new _ _ _ _ _ (srcY m)).alloc (by simp) _
  have hM0 : Room ((w.alloc (.cells #[.int .i64 m.a.re, .int .i64 m.a.im, .int .i64 m.a.den, .int .i64 m.b.re, .int .i64 m.b.im, .int .i64 m.b.den, .int .i64 m.c.re, .int .i64 m.c.im, .int .i64 m.c.den, .int .i64 m.d.re, .int .i64 m.d.im, .int .i64 m.d.den] 45)).alloc (.cells #[.int .i64 0, .int .i64 0, .int .i64 0, .int .i64 0, .int .i64 0, .int .i64 0, .int .i64 0, .int .i64 0, .int .i64 0, .int .i64 0, .int .i64 0, .int .i64 0] 45)) w.heap.size 4 := (Room.new' rfl rfl).alloc (by simp) _
  have hR0 : Room ((w.alloc (.cells #[.int .i64 m.a.re, .int .i64 m.a.im, .int .i64 m.a.den, .int .i64 m.b.re, .int .i64 m.b.im, .int .i64 m.b.den, .int .i64 m.c.re, .int .i64 m.c.im, .int .i64 m.c.den, .int .i64 m.d.re, .int .i64 m.d.im, .int .i64 m.d.den] 45)).alloc (.cells #[.int .i64 0, .int .i64 0, .int .i64 0, .int .i64 0, .int .i64 0, .int .i64 0, .int .i64 0, .int .i64 0, .int .i64 0, .int .i64 0, .int .i64 0, .int .i64 0] 45)) (w.heap.size + 1) 4 := Room.new' (by simp) rfl
  have HX := Lib.hid hB0; have HM := Lib.hid hM0; have HR := Lib.hid hR0; clear hB0 hM0 hR0
  cases hv : all4 realB m
  · have HG := Lib.hid (gMir_no hv)
    go_enter Try.func35, Try.ntmps35
    go_wp2_with fail
    refine (istokesvalid_any m _).mono ?_
    rintro e w1 ⟨rfl, hb⟩
    have HR := Lib.hid (HR.out.below hb (by simp))
    have HB := Lib.hid (show Below w.heap.size w w1 from by (repeat' first | exact Below.refl _ _ | apply bl_alloc | apply bl_drewN | apply bl_drew | refine bl_trans ?_ (by assumption) | refine bl_set ?_ (by first | omega | (simp <;> omega)) _))
    have kc := fun o => hb.cell (p := ⟨w.heap.size + 1, o, none⟩) (by show w.heap.size + 1 < _; simp)
    have kf := fun o => hb.frozen (p := ⟨w.heap.size + 1, o, none⟩) (by show w.heap.size + 1 < _; simp)
    clear hb
    go_wp2
    refine bodyPost_ret (v := .tuple #[.agg #[.int .i64 0, .int .i64 0, .int .i64 0, .int .i64 0, .int .i64 0, .int .i64 0, .int .i64 0, .int .i64 0, .int .i64 0, .int .i64 0, .int .i64 0, .int .i64 0], .bool false]) ?_ rfl ?_
    · exact Eq.trans (results_cell_mid2 rfl _ _ (w.heap.size + 1) [.int .i64 0, .int .i64 0, .int .i64 0, .int .i64 0, .int .i64 0, .int .i64 0, .int .i64 0, .int .i64 0, .int .i64 0, .int .i64 0, .int .i64 0, .int .i64 0] _ (by rfl) (World.rangeAt_setCells_same w1 (w.heap.size + 1) 0 [.int .i64 0, .int .i64 0, .int .i64 0, .int .i64 0, .int .i64 0, .int .i64 0, .int .i64 0, .int .i64 0, .int .i64 0, .int .i64 0, .int .i64 0, .int .i64 0] HR.out.there) Try.underlying45 rfl (by kernel_rfl)) rfl
    · exact M4Out.no HG.out (setCells_below (w.heap.size + 1) [.int .i64 0, .int .i64 0, .int .i64 0, .int .i64 0, .int .i64 0, .int .i64 0, .int .i64 0, .int .i64 0, .int .i64 0, .int .i64 0, .int .i64 0, .int .i64 0] 0 HB.out (by omega))
  · have HG := Lib.hid (gMir_yes hv)
    obtain ⟨i0, l1, l2⟩ := real_d hv
    have I0 := Lib.hid i0; clear i0
    go_enter Try.func35, Try.ntmps35
    go_wp2_with fail
    refine (istokesvalid_any m _).mono ?_
    rintro e w1 ⟨rfl, hb⟩
    have HX := Lib.hid (HX.out.below hb (by simp))
    have HM := Lib.hid (HM.out.below hb (by simp))
    have HR := Lib.hid (HR.out.below hb (by simp))
    have HB := Lib.hid (show Below w.heap.size w w1 from by (repeat' first | exact Below.refl _ _ | apply bl_alloc | apply bl_drewN | apply bl_drew | refine bl_trans ?_ (by assumption) | refine bl_set ?_ (by first | omega | (simp <;> omega)) _))
    have kc := fun o => hb.cell (p := ⟨w.heap.size, o, none⟩) (by show w.heap.size < _; simp)
    have kf := fun o => hb.frozen (p := ⟨w.heap.size, o, none⟩) (by show w.heap.size < _; simp)
    have hz := hb.size
    simp at hz
    clear hb
    go_wp2_with fail
    refine (opposite_any m.d l1 l2 I0.out _).mono ?_
    rintro e w2 ⟨rfl, hb⟩
    have HX := Lib.hid ((HX.out.below hb (by omega)).putD (HM.out.below hb (by omega)) ⟨-m.d.re, m.d.im, m.d.den⟩)
    have HR := Lib.hid ((HR.out.below hb (by omega)).put w.heap.size 3 ⟨-m.d.re, m.d.im, m.d.den⟩)
    have HB := Lib.hid (show Below w.heap.size w (putF w2 w.heap.size 3 ⟨-m.d.re, m.d.im, m.d.den⟩) from (((HB.out.trans (hb.mono HB.out.size)).setCell (Nat.le_refl _) _).setCell (Nat.le_refl _) _).setCell (Nat.le_refl _) _)
    have kc2 := fun o => hb.cell (p := ⟨w.heap.size, o, none⟩) (by show w.heap.size < _; omega)
    have kf2 := fun o => hb.frozen (p := ⟨w.heap.size, o, none⟩) (by show w.heap.size < _; omega)
    clear hb
    go_wp2_with (first
      | ((with_reducible refine wpList_load_mid ?k1 45 ?kx ?k2 (w.heap.size) 0 ?k3 (cl (setD m ⟨-m.d.re, m.d.im, m.d.den⟩).get 4) ?kd ?k4 ?k5 ?k6 ?k7 ?k8); (case k2 => rfl); (case k1 => rfl); (case k3 => rfl); (case k4 => exact (HX.out.range)); (case k5 => exact Try.underlying45); (case k6 => rfl); (case k7 => kernel_rfl))
      | ((with_reducible refine wpList_store_mid ?h1 45 ?hx ?hy ?h2 (w.heap.size + 1) 0 (cl (setD m ⟨-m.d.re, m.d.im, m.d.den⟩).get 4).toArray ?h3 ?h4 ?h5 ?h6 ?h7 ?h8); (case h2 => rfl); (case h1 => rfl); (case h3 => rfl); (case h4 => rfl); (case h5 => exact (HR.out.thereC _)); (case h6 => kernel_rfl); (case h7 => exact (cl_one _ _))))
    refine bodyPost_ret (v := .tuple #[.agg (cl (setD m ⟨-m.d.re, m.d.im, m.d.den⟩).get 4).toArray, .bool true]) ?_ rfl ?_
    · exact Eq.trans (results_cell_mid2 rfl _ _ (w.heap.size + 1) (cl (setD m ⟨-m.d.re, m.d.im, m.d.den⟩).get 4) _ (by rfl) (World.rangeAt_setCells_same _ (w.heap.size + 1) 0 _ (HR.out.thereC _)) Try.underlying45 rfl (by kernel_rfl)) rfl
    · exact ⟨by rw [HG.out]; exact congrArg (fun c => Ending.returned (.tuple #[.agg c, .bool true])) (cl4 _), setCells_below _ _ _ HB.out (by omega)⟩
end Go.Proofs.Ytlmpbijhidnekaa
