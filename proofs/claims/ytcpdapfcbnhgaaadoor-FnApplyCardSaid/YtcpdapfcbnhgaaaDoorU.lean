/- Contracts of the reference: determinants. -/
import Derived.Test.YtcpdapfcbnhgaaaDoorP
namespace Go.Proofs.YtcpdapfcbnhgaaaDoor
open Go.RowKit Pol

theorem FrOut.is {g g' : Fr × Bool} {w w' : World} (h : g = g') (hb : Below w.heap.size w w') : FrOut g w (.returned (.tuple #[.agg #[.int .i64 g'.1.re, .int .i64 g'.1.im, .int .i64 g'.1.den], .bool g'.2])) w' := ⟨g'.1, g'.2, h, rfl, hb⟩
theorem gDet_bad1 {m : M4} (h : (fTimes m.a m.d).2 = false) : gDet m = (fz, false) := by unfold gDet; rw [h]; simp
theorem gDet_bad2 {m : M4} (h : (fTimes m.b m.c).2 = false) : gDet m = (fz, false) := by unfold gDet; rw [h]; simp
theorem gDet_fine {m : M4} (h1 : (fTimes m.a m.d).2 = true) (h2 : (fTimes m.b m.c).2 = true) : gDet m = fLess (fTimes m.a m.d).1 (fTimes m.b m.c).1 := by unfold gDet; rw [h1, h2]; simp
set_option maxHeartbeats 4000000 in
theorem smatdet_any (m : M4) (w : World) :
    Calls Tryd.prog 35 #[.agg #[.int .i64 m.a.re, .int .i64 m.a.im, .int .i64 m.a.den, .int .i64 m.b.re, .int .i64 m.b.im, .int .i64 m.b.den, .int .i64 m.c.re, .int .i64 m.c.im, .int .i64 m.c.den, .int .i64 m.d.re, .int .i64 m.d.im, .int .i64 m.d.den]] w (FrOut (gDet m) w) := by
  cases hx : (fTimes m.a m.d).2
  · have HG := Lib.hid (gDet_bad1 hx)
    go_enter Tryd.func35, Tryd.ntmps35
    go_wp2_with fail
    refine (sptimes_fr m.a m.d _).mono ?_
    rintro e w1 ho
    obtain ⟨rfl, hb⟩ := ho.fn
    have kc0 := fun o => hb.cell (p := ⟨w.heap.size, o, none⟩) (by show w.heap.size < _; first | omega | (simp <;> omega))
    have kc1 := fun o => hb.cell (p := ⟨w.heap.size + 1, o, none⟩) (by show w.heap.size + 1 < _; first | omega | (simp <;> omega))
    have kf0 := fun o => hb.frozen (p := ⟨w.heap.size + 1, o, none⟩) (by show w.heap.size + 1 < _; first | omega | (simp <;> omega))
    have hz := hb.size
    (try simp at hz)
    have kl0 : w.heap.size < w1.heap.size := by omega
    have kn0 : ¬ w.heap.size = w1.heap.size := by omega
    have km0 : ¬ w1.heap.size = w.heap.size := by omega
    have kl1 : w.heap.size + 1 < w1.heap.size := by omega
    have kn1 : ¬ w.heap.size + 1 = w1.heap.size := by omega
    have km1 : ¬ w1.heap.size = w.heap.size + 1 := by omega
    have HB := Lib.hid (show Below w.heap.size w w1 from by (repeat' first | exact Below.refl _ _ | apply bl_alloc | apply bl_drewN | apply bl_drew | refine bl_trans ?_ (by assumption) | refine bl_set ?_ (by first | omega | (simp <;> omega)) _))
    clear ho hb
    go_wp2_with fail
    refine (sptimes_fr m.b m.c _).mono ?_
    rintro e w2 ho
    obtain ⟨rfl, hb⟩ := ho.fn
    have kc0 := fun o => hb.cell (p := ⟨w.heap.size, o, none⟩) (by show w.heap.size < _; first | omega | (simp <;> omega))
    have kc1 := fun o => hb.cell (p := ⟨w.heap.size + 1, o, none⟩) (by show w.heap.size + 1 < _; first | omega | (simp <;> omega))
    have kc2 := fun o => hb.cell (p := ⟨w1.heap.size, o, none⟩) (by show w1.heap.size < _; first | omega | (simp <;> omega))
    have kf0 := fun o => hb.frozen (p := ⟨w.heap.size + 1, o, none⟩) (by show w.heap.size + 1 < _; first | omega | (simp <;> omega))
    have hz := hb.size
    (try simp at hz)
    have kl0 : w.heap.size < w2.heap.size := by omega
    have kn0 : ¬ w.heap.size = w2.heap.size := by omega
    have km0 : ¬ w2.heap.size = w.heap.size := by omega
    have kl1 : w.heap.size + 1 < w2.heap.size := by omega
    have kn1 : ¬ w.heap.size + 1 = w2.heap.size := by omega
    have km1 : ¬ w2.heap.size = w.heap.size + 1 := by omega
    have kl2 : w1.heap.size < w2.heap.size := by omega
    have kn2 : ¬ w1.heap.size = w2.heap.size := by omega
    have km2 : ¬ w2.heap.size = w1.heap.size := by omega
    have HB := Lib.hid (show Below w.heap.size w w2 from by exact HB.out.trans ((show Below _ _ _ from (Below.refl _ _).alloc (by omega) _).trans (hb.mono (by first | omega | (simp <;> omega)))))
    clear ho hb
    go_wp2
    refine bodyPost_ret (v := .tuple #[.agg #[.int .i64 0, .int .i64 0, .int .i64 0], .bool false]) (by simp [results, Tryd.results35, go_sem, *]) rfl (FrOut.no HG.out ?_)
    (repeat' first | (with_reducible exact HB.out) | with_reducible refine setCells_below _ _ _ ?_ (by first | omega | (simp <;> omega)) | with_reducible refine Below.setCell ?_ (by show _ ≤ _; first | omega | (simp <;> omega) | simp) _ | with_reducible refine Below.alloc ?_ (by first | omega | (simp <;> omega)) _ | with_reducible apply Below.drew)
  cases hy : (fTimes m.b m.c).2
  · have HG := Lib.hid (gDet_bad2 hy)
    go_enter Tryd.func35, Tryd.ntmps35
    go_wp2_with fail
    refine (sptimes_fr m.a m.d _).mono ?_
    rintro e w1 ho
    obtain ⟨rfl, hb⟩ := ho.fn
    have kc0 := fun o => hb.cell (p := ⟨w.heap.size, o, none⟩) (by show w.heap.size < _; first | omega | (simp <;> omega))
    have kc1 := fun o => hb.cell (p := ⟨w.heap.size + 1, o, none⟩) (by show w.heap.size + 1 < _; first | omega | (simp <;> omega))
    have kf0 := fun o => hb.frozen (p := ⟨w.heap.size + 1, o, none⟩) (by show w.heap.size + 1 < _; first | omega | (simp <;> omega))
    have hz := hb.size
    (try simp at hz)
    have kl0 : w.heap.size < w1.heap.size := by omega
    have kn0 : ¬ w.heap.size = w1.heap.size := by omega
    have km0 : ¬ w1.heap.size = w.heap.size := by omega
    have kl1 : w.heap.size + 1 < w1.heap.size := by omega
    have kn1 : ¬ w.heap.size + 1 = w1.heap.size := by omega
    have km1 : ¬ w1.heap.size = w.heap.size + 1 := by omega
    have HB := Lib.hid (show Below w.heap.size w w1 from by (repeat' first | exact Below.refl _ _ | apply bl_alloc | apply bl_drewN | apply bl_drew | refine bl_trans ?_ (by assumption) | refine bl_set ?_ (by first | omega | (simp <;> omega)) _))
    clear ho hb
    go_wp2_with fail
    refine (sptimes_fr m.b m.c _).mono ?_
    rintro e w2 ho
    obtain ⟨rfl, hb⟩ := ho.fn
    have kc0 := fun o => hb.cell (p := ⟨w.heap.size, o, none⟩) (by show w.heap.size < _; first | omega | (simp <;> omega))
    have kc1 := fun o => hb.cell (p := ⟨w.heap.size + 1, o, none⟩) (by show w.heap.size + 1 < _; first | omega | (simp <;> omega))
    have kc2 := fun o => hb.cell (p := ⟨w1.heap.size, o, none⟩) (by show w1.heap.size < _; first | omega | (simp <;> omega))
    have kf0 := fun o => hb.frozen (p := ⟨w.heap.size + 1, o, none⟩) (by show w.heap.size + 1 < _; first | omega | (simp <;> omega))
    have hz := hb.size
    (try simp at hz)
    have kl0 : w.heap.size < w2.heap.size := by omega
    have kn0 : ¬ w.heap.size = w2.heap.size := by omega
    have km0 : ¬ w2.heap.size = w.heap.size := by omega
    have kl1 : w.heap.size + 1 < w2.heap.size := by omega
    have kn1 : ¬ w.heap.size + 1 = w2.heap.size := by omega
    have km1 : ¬ w2.heap.size = w.heap.size + 1 := by omega
    have kl2 : w1.heap.size < w2.heap.size := by omega
    have kn2 : ¬ w1.heap.size = w2.heap.size := by omega
    have km2 : ¬ w2.heap.size = w1.heap.size := by omega
    have HB := Lib.hid (show Below w.heap.size w w2 from by exact HB.out.trans ((show Below _ _ _ from (Below.refl _ _).alloc (by omega) _).trans (hb.mono (by first | omega | (simp <;> omega)))))
    clear ho hb
    go_wp2
    refine bodyPost_ret (v := .tuple #[.agg #[.int .i64 0, .int .i64 0, .int .i64 0], .bool false]) (by simp [results, Tryd.results35, go_sem, *]) rfl (FrOut.no HG.out ?_)
    (repeat' first | (with_reducible exact HB.out) | with_reducible refine setCells_below _ _ _ ?_ (by first | omega | (simp <;> omega)) | with_reducible refine Below.setCell ?_ (by show _ ≤ _; first | omega | (simp <;> omega) | simp) _ | with_reducible refine Below.alloc ?_ (by first | omega | (simp <;> omega)) _ | with_reducible apply Below.drew)
  · have HG := Lib.hid (gDet_fine hx hy)
    go_enter Tryd.func35, Tryd.ntmps35
    go_wp2_with fail
    refine (sptimes_fr m.a m.d _).mono ?_
    rintro e w1 ho
    obtain ⟨rfl, hb⟩ := ho.fn
    have kc0 := fun o => hb.cell (p := ⟨w.heap.size, o, none⟩) (by show w.heap.size < _; first | omega | (simp <;> omega))
    have kc1 := fun o => hb.cell (p := ⟨w.heap.size + 1, o, none⟩) (by show w.heap.size + 1 < _; first | omega | (simp <;> omega))
    have kf0 := fun o => hb.frozen (p := ⟨w.heap.size + 1, o, none⟩) (by show w.heap.size + 1 < _; first | omega | (simp <;> omega))
    have hz := hb.size
    (try simp at hz)
    have kl0 : w.heap.size < w1.heap.size := by omega
    have kn0 : ¬ w.heap.size = w1.heap.size := by omega
    have km0 : ¬ w1.heap.size = w.heap.size := by omega
    have kl1 : w.heap.size + 1 < w1.heap.size := by omega
    have kn1 : ¬ w.heap.size + 1 = w1.heap.size := by omega
    have km1 : ¬ w1.heap.size = w.heap.size + 1 := by omega
    have HB := Lib.hid (show Below w.heap.size w w1 from by (repeat' first | exact Below.refl _ _ | apply bl_alloc | apply bl_drewN | apply bl_drew | refine bl_trans ?_ (by assumption) | refine bl_set ?_ (by first | omega | (simp <;> omega)) _))
    clear ho hb
    go_wp2_with fail
    refine (sptimes_fr m.b m.c _).mono ?_
    rintro e w2 ho
    obtain ⟨rfl, hb⟩ := ho.fn
    have kc0 := fun o => hb.cell (p := ⟨w.heap.size, o, none⟩) (by show w.heap.size < _; first | omega | (simp <;> omega))
    have kc1 := fun o => hb.cell (p := ⟨w.heap.size + 1, o, none⟩) (by show w.heap.size + 1 < _; first | omega | (simp <;> omega))
    have kc2 := fun o => hb.cell (p := ⟨w1.heap.size, o, none⟩) (by show w1.heap.size < _; first | omega | (simp <;> omega))
    have kf0 := fun o => hb.frozen (p := ⟨w.heap.size + 1, o, none⟩) (by show w.heap.size + 1 < _; first | omega | (simp <;> omega))
    have hz := hb.size
    (try simp at hz)
    have kl0 : w.heap.size < w2.heap.size := by omega
    have kn0 : ¬ w.heap.size = w2.heap.size := by omega
    have km0 : ¬ w2.heap.size = w.heap.size := by omega
    have kl1 : w.heap.size + 1 < w2.heap.size := by omega
    have kn1 : ¬ w.heap.size + 1 = w2.heap.size := by omega
    have km1 : ¬ w2.heap.size = w.heap.size + 1 := by omega
    have kl2 : w1.heap.size < w2.heap.size := by omega
    have kn2 : ¬ w1.heap.size = w2.heap.size := by omega
    have km2 : ¬ w2.heap.size = w1.heap.size := by omega
    have HB := Lib.hid (show Below w.heap.size w w2 from by exact HB.out.trans ((show Below _ _ _ from (Below.refl _ _).alloc (by omega) _).trans (hb.mono (by first | omega | (simp <;> omega)))))
    clear ho hb
    go_wp2_with fail
    refine (spless_fr _ _ _).mono ?_
    rintro e w3 ho
    obtain ⟨rfl, hb⟩ := ho.fn
    have kc0 := fun o => hb.cell (p := ⟨w.heap.size + 1, o, none⟩) (by show w.heap.size + 1 < _; first | omega | (simp <;> omega))
    have kf0 := fun o => hb.frozen (p := ⟨w.heap.size + 1, o, none⟩) (by show w.heap.size + 1 < _; first | omega | (simp <;> omega))
    have hz := hb.size
    (try simp at hz)
    have kl0 : w.heap.size + 1 < w3.heap.size := by omega
    have kn0 : ¬ w.heap.size + 1 = w3.heap.size := by omega
    have km0 : ¬ w3.heap.size = w.heap.size + 1 := by omega
    have HB := Lib.hid (show Below w.heap.size w w3 from by exact HB.out.trans ((show Below _ _ _ from (Below.refl _ _).alloc (by omega) _).trans (hb.mono (by first | omega | (simp <;> omega)))))
    clear ho hb
    go_wp2
    refine bodyPost_ret (v := .tuple #[.agg #[.int .i64 (fLess (fTimes m.a m.d).1 (fTimes m.b m.c).1).1.re, .int .i64 (fLess (fTimes m.a m.d).1 (fTimes m.b m.c).1).1.im, .int .i64 (fLess (fTimes m.a m.d).1 (fTimes m.b m.c).1).1.den], .bool (fLess (fTimes m.a m.d).1 (fTimes m.b m.c).1).2]) (by simp [results, Tryd.results35, go_sem, *]) rfl (FrOut.is HG.out ?_)
    (repeat' first | (with_reducible exact HB.out) | with_reducible refine setCells_below _ _ _ ?_ (by first | omega | (simp <;> omega)) | with_reducible refine Below.setCell ?_ (by show _ ≤ _; first | omega | (simp <;> omega) | simp) _ | with_reducible refine Below.alloc ?_ (by first | omega | (simp <;> omega)) _ | with_reducible apply Below.drew)
end Go.Proofs.YtcpdapfcbnhgaaaDoor
