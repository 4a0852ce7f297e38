/- Contracts: vectors, on both sides. -/
import Derived.Test.YtlmpbijhidnekaaT
import Derived.Test.YtlmpbijhidnekaaV
import Derived.Test.YtlmpbijhidnekaaQ2
import Derived.Test.YtlmpbijhidnekaaN
import Derived.Test.YtlmpbijhidnekaaF
namespace Go.Proofs.Ytlmpbijhidnekaa
open Go.RowKit Pol

/-- What a call hands back that makes a vector. -/
def J2Out (g : J2 × Bool) (w : World) (e : Ending) (w' : World) : Prop :=
  e = .returned (.tuple #[.agg #[.int .i64 g.1.x.re, .int .i64 g.1.x.im, .int .i64 g.1.x.den, .int .i64 g.1.y.re, .int .i64 g.1.y.im, .int .i64 g.1.y.den], .bool g.2]) ∧ Below w.heap.size w w'
theorem J2Out.yes {g : J2 × Bool} {f : J2} {w w' : World} (h2 : g.2 = true) (h1 : f = g.1) (hb : Below w.heap.size w w') : J2Out g w (.returned (.tuple #[.agg #[.int .i64 f.x.re, .int .i64 f.x.im, .int .i64 f.x.den, .int .i64 f.y.re, .int .i64 f.y.im, .int .i64 f.y.den], .bool true])) w' :=
  ⟨by rw [h1, h2], hb⟩
theorem J2Out.no {g : J2 × Bool} {w w' : World} (h2 : g = (j2z, false)) (hb : Below w.heap.size w w') : J2Out g w (.returned (.tuple #[.agg #[.int .i64 0, .int .i64 0, .int .i64 0, .int .i64 0, .int .i64 0, .int .i64 0], .bool false])) w' :=
  ⟨by rw [h2]; rfl, hb⟩
theorem J2Out.self {g : J2 × Bool} {w w' : World} (hb : Below w.heap.size w w') : J2Out g w (.returned (.tuple #[.agg #[.int .i64 g.1.x.re, .int .i64 g.1.x.im, .int .i64 g.1.x.den, .int .i64 g.1.y.re, .int .i64 g.1.y.im, .int .i64 g.1.y.den], .bool g.2])) w' := ⟨rfl, hb⟩
theorem J2Out.fn {g : J2 × Bool} {w w' : World} {e : Ending} (h : J2Out g w e w') : e = .returned (.tuple #[.agg #[.int .i64 g.1.x.re, .int .i64 g.1.x.im, .int .i64 g.1.x.den, .int .i64 g.1.y.re, .int .i64 g.1.y.im, .int .i64 g.1.y.den], .bool g.2]) ∧ Below w.heap.size w w' := h
theorem FrOut.self {g : Fr × Bool} {w w' : World} (hb : Below w.heap.size w w') : FrOut g w (.returned (.tuple #[.agg #[.int .i64 g.1.re, .int .i64 g.1.im, .int .i64 g.1.den], .bool g.2])) w' := ⟨g.1, g.2, rfl, rfl, hb⟩
theorem jv_no1 {a : J2} (h : vld a.x = false) : jv a = false := by unfold jv; rw [h]; rfl
theorem jv_y {a : J2} (h : vld a.x = true) : jv a = vld a.y := by unfold jv; rw [h]; rfl
set_option maxHeartbeats 2000000 in
theorem ijv_any (a : J2) (w : World) :
    Calls Try.prog 44 #[.agg #[.int .i64 a.x.re, .int .i64 a.x.im, .int .i64 a.x.den, .int .i64 a.y.re, .int .i64 a.y.im, .int .i64 a.y.den]] w fun e w' => e = .returned (.bool (jv a)) ∧ Below w.heap.size w w' := by
  cases hx : vld a.x
  · have HG := Lib.hid (jv_no1 hx)
    go_enter Try.func44, Try.ntmps44
    go_wp2_with (go_at_call 51; (with_reducible refine (valid_fb hx _).mono ?_); rintro e w1 ⟨rfl, hb⟩; have hb' := hb; obtain ⟨hc, hf, hz⟩ := bcellk (B := w.heap.size + 1) hb (by first | omega | (simp <;> omega)))
    go_ret
    exact ⟨ret_bool (by simp [HG.out]), by (repeat' first | exact Below.refl _ _ | apply bl_alloc | apply bl_drewN | apply bl_drew | refine bl_trans ?_ (by assumption) | refine bl_set ?_ (by first | omega | (simp <;> omega)) _)⟩
  · cases hy : vld a.y
    · have HG := Lib.hid ((jv_y hx).trans hy)
      go_enter Try.func44, Try.ntmps44
      go_wp2_with (go_at_call 51; (first | (with_reducible refine (valid_fb hx _).mono ?_) | (with_reducible refine (valid_fb hy _).mono ?_)); rintro e w1 ⟨rfl, hb⟩; have hb' := hb; obtain ⟨hc, hf, hz⟩ := bcellk (B := w.heap.size + 1) hb (by first | omega | (simp <;> omega)))
      go_ret
      exact ⟨ret_bool (by simp [HG.out]), by (repeat' first | exact Below.refl _ _ | apply bl_alloc | apply bl_drewN | apply bl_drew | refine bl_trans ?_ (by assumption) | refine bl_set ?_ (by first | omega | (simp <;> omega)) _)⟩
    · have HG := Lib.hid ((jv_y hx).trans hy)
      go_enter Try.func44, Try.ntmps44
      go_wp2_with (go_at_call 51; (first | (with_reducible refine (valid_fb hx _).mono ?_) | (with_reducible refine (valid_fb hy _).mono ?_)); rintro e w1 ⟨rfl, hb⟩; have hb' := hb; obtain ⟨hc, hf, hz⟩ := bcellk (B := w.heap.size + 1) hb (by first | omega | (simp <;> omega)))
      go_ret
      exact ⟨ret_bool (by simp [HG.out]), by (repeat' first | exact Below.refl _ _ | apply bl_alloc | apply bl_drewN | apply bl_drew | refine bl_trans ?_ (by assumption) | refine bl_set ?_ (by first | omega | (simp <;> omega)) _)⟩
set_option maxRecDepth 100000 in
set_option maxHeartbeats 8000000 in
theorem sppow2_any (a : Fr) (w : World) :
    Calls Try.prog 57 #[.agg #[.int .i64 a.re, .int .i64 a.im, .int .i64 a.den]] w (FrOut (fPow2 a) w) := by
  cases h1 : (fMirror a).2
  · have HG : Hid ((fPow2 a) = (fz, false)) := by show _ = _; simp [fPow2, h1]
    go_enter Try.func57, Try.ntmps57
    go_wp2_with fail
    refine (spmirror_fr a _).mono ?_
    rintro e w1 ho
    obtain ⟨rfl, hb⟩ := ho.fn
    have kc0 := fun o => hb.cell (p := ⟨w.heap.size, o, none⟩) (by show w.heap.size < _; first | omega | (simp <;> omega))
    have kc1 := fun o => hb.cell (p := ⟨w.heap.size + 1, o, none⟩) (by show w.heap.size + 1 < _; first | omega | (simp <;> omega))
    have kf0 := fun o => hb.frozen (p := ⟨w.heap.size + 1, o, none⟩) (by show w.heap.size + 1 < _; first | omega | (simp <;> omega))
    have hz := hb.size
    (try simp at hz)
    have kl0 : w.heap.size < w1.heap.size := by omega
    have kn0 : ¬ w.heap.size = w1.heap.size := by omega
    have km0 : ¬ w1.heap.size = w.heap.size := by omega
    have kl1 : w.heap.size + 1 < w1.heap.size := by omega
    have kn1 : ¬ w.heap.size + 1 = w1.heap.size := by omega
    have km1 : ¬ w1.heap.size = w.heap.size + 1 := by omega
    have HB := Lib.hid (show Below w.heap.size w w1 from by (repeat' first | exact Below.refl _ _ | apply bl_alloc | apply bl_drewN | apply bl_drew | refine bl_trans ?_ (by assumption) | refine bl_set ?_ (by first | omega | (simp <;> omega)) _))
    have HR := Lib.hid ((show Room _ (w.heap.size + 1) 1 from (Room.new' (by simp) rfl)).below hb (by first | omega | (simp <;> omega)))
    clear ho hb
    go_wp2
    refine bodyPost_ret (v := .tuple #[.agg #[.int .i64 0, .int .i64 0, .int .i64 0], .bool false]) (by simp [results, Try.results57, go_sem, *]) rfl (FrOut.no HG.out ?_)
    (repeat' first | (with_reducible exact HB.out) | with_reducible refine setCells_below _ _ _ ?_ (by first | omega | (simp <;> omega)) | with_reducible refine Below.setCell ?_ (by show _ ≤ _; first | omega | (simp <;> omega) | simp) _ | with_reducible refine Below.alloc ?_ (by first | omega | (simp <;> omega)) _ | with_reducible apply Below.drew)
  · have HG : Hid ((fPow2 a) = fTimes a (fMirror a).1) := by show _ = _; simp [fPow2, h1]
    go_enter Try.func57, Try.ntmps57
    go_wp2_with fail
    refine (spmirror_fr a _).mono ?_
    rintro e w1 ho
    obtain ⟨rfl, hb⟩ := ho.fn
    have kc0 := fun o => hb.cell (p := ⟨w.heap.size, o, none⟩) (by show w.heap.size < _; first | omega | (simp <;> omega))
    have kc1 := fun o => hb.cell (p := ⟨w.heap.size + 1, o, none⟩) (by show w.heap.size + 1 < _; first | omega | (simp <;> omega))
    have kf0 := fun o => hb.frozen (p := ⟨w.heap.size + 1, o, none⟩) (by show w.heap.size + 1 < _; first | omega | (simp <;> omega))
    have hz := hb.size
    (try simp at hz)
    have kl0 : w.heap.size < w1.heap.size := by omega
    have kn0 : ¬ w.heap.size = w1.heap.size := by omega
    have km0 : ¬ w1.heap.size = w.heap.size := by omega
    have kl1 : w.heap.size + 1 < w1.heap.size := by omega
    have kn1 : ¬ w.heap.size + 1 = w1.heap.size := by omega
    have km1 : ¬ w1.heap.size = w.heap.size + 1 := by omega
    have HB := Lib.hid (show Below w.heap.size w w1 from by (repeat' first | exact Below.refl _ _ | apply bl_alloc | apply bl_drewN | apply bl_drew | refine bl_trans ?_ (by assumption) | refine bl_set ?_ (by first | omega | (simp <;> omega)) _))
    have HR := Lib.hid ((show Room _ (w.heap.size + 1) 1 from (Room.new' (by simp) rfl)).below hb (by first | omega | (simp <;> omega)))
    clear ho hb
    go_wp2_with fail
    refine (sptimes_fr a _ _).mono ?_
    rintro e w2 ho
    rw [← HG.out] at ho
    obtain ⟨rfl, hb⟩ := ho.fn
    have kc0 := fun o => hb.cell (p := ⟨w.heap.size + 1, o, none⟩) (by show w.heap.size + 1 < _; first | omega | (simp <;> omega))
    have kf0 := fun o => hb.frozen (p := ⟨w.heap.size + 1, o, none⟩) (by show w.heap.size + 1 < _; first | omega | (simp <;> omega))
    have hz := hb.size
    (try simp at hz)
    have kl0 : w.heap.size + 1 < w2.heap.size := by omega
    have kn0 : ¬ w.heap.size + 1 = w2.heap.size := by omega
    have km0 : ¬ w2.heap.size = w.heap.size + 1 := by omega
    have HB := Lib.hid (show Below w.heap.size w w2 from by exact HB.out.trans ((show Below _ _ _ from ((Below.refl _ _).alloc (by omega) _)).trans (hb.mono (by first | omega | (simp <;> omega)))))
    have HR := Lib.hid ((show Room _ (w.heap.size + 1) 1 from (HR.out.alloc (by omega) _)).below hb (by first | omega | (simp <;> omega)))
    clear ho hb
    go_wp2
    refine bodyPost_ret (v := .tuple #[.agg #[.int .i64 ((fPow2 a)).1.re, .int .i64 ((fPow2 a)).1.im, .int .i64 ((fPow2 a)).1.den], .bool ((fPow2 a)).2]) (by simp [results, Try.results57, go_sem, *]) rfl (FrOut.self ?_)
    (repeat' first | (with_reducible exact HB.out) | with_reducible refine setCells_below _ _ _ ?_ (by first | omega | (simp <;> omega)) | with_reducible refine Below.setCell ?_ (by show _ ≤ _; first | omega | (simp <;> omega) | simp) _ | with_reducible refine Below.alloc ?_ (by first | omega | (simp <;> omega)) _ | with_reducible apply Below.drew)
theorem sppower_fr (a : Fr) (w : World) : Calls Try.prog 57 #[.agg #[.int .i64 a.re, .int .i64 a.im, .int .i64 a.den]] w (FrOut (fPower a) w) := fPow2_eq a ▸ sppow2_any a w
set_option maxRecDepth 100000 in
set_option maxHeartbeats 8000000 in
theorem sjpow_any (a : J2) (w : World) :
    Calls Try.prog 25 #[.agg #[.int .i64 a.x.re, .int .i64 a.x.im, .int .i64 a.x.den, .int .i64 a.y.re, .int .i64 a.y.im, .int .i64 a.y.den]] w (FrOut (jPow a) w) := by
  cases h1 : (fPower a.x).2
  · have HG : Hid ((jPow a) = (fz, false)) := by show _ = _; simp [jPow, h1]
    go_enter Try.func25, Try.ntmps25
    go_wp2_with fail
    refine (sppower_fr a.x _).mono ?_
    rintro e w1 ho
    obtain ⟨rfl, hb⟩ := ho.fn
    have kc0 := fun o => hb.cell (p := ⟨w.heap.size, o, none⟩) (by show w.heap.size < _; first | omega | (simp <;> omega))
    have kc1 := fun o => hb.cell (p := ⟨w.heap.size + 1, o, none⟩) (by show w.heap.size + 1 < _; first | omega | (simp <;> omega))
    have kf0 := fun o => hb.frozen (p := ⟨w.heap.size + 1, o, none⟩) (by show w.heap.size + 1 < _; first | omega | (simp <;> omega))
    have hz := hb.size
    (try simp at hz)
    have kl0 : w.heap.size < w1.heap.size := by omega
    have kn0 : ¬ w.heap.size = w1.heap.size := by omega
    have km0 : ¬ w1.heap.size = w.heap.size := by omega
    have kl1 : w.heap.size + 1 < w1.heap.size := by omega
    have kn1 : ¬ w.heap.size + 1 = w1.heap.size := by omega
    have km1 : ¬ w1.heap.size = w.heap.size + 1 := by omega
    have HB := Lib.hid (show Below w.heap.size w w1 from by (repeat' first | exact Below.refl _ _ | apply bl_alloc | apply bl_drewN | apply bl_drew | refine bl_trans ?_ (by assumption) | refine bl_set ?_ (by first | omega | (simp <;> omega)) _))
    have HR := Lib.hid ((show Room _ (w.heap.size + 1) 1 from (Room.new' (by simp) rfl)).below hb (by first | omega | (simp <;> omega)))
    clear ho hb
    go_wp2_with fail
    refine (sppower_fr a.y _).mono ?_
    rintro e w2 ho
    obtain ⟨rfl, hb⟩ := ho.fn
    have kc0 := fun o => hb.cell (p := ⟨w.heap.size, o, none⟩) (by show w.heap.size < _; first | omega | (simp <;> omega))
    have kc1 := fun o => hb.cell (p := ⟨w.heap.size + 1, o, none⟩) (by show w.heap.size + 1 < _; first | omega | (simp <;> omega))
    have kc2 := fun o => hb.cell (p := ⟨w1.heap.size, o, none⟩) (by show w1.heap.size < _; first | omega | (simp <;> omega))
    have kf0 := fun o => hb.frozen (p := ⟨w.heap.size + 1, o, none⟩) (by show w.heap.size + 1 < _; first | omega | (simp <;> omega))
    have hz := hb.size
    (try simp at hz)
    have kl0 : w.heap.size < w2.heap.size := by omega
    have kn0 : ¬ w.heap.size = w2.heap.size := by omega
    have km0 : ¬ w2.heap.size = w.heap.size := by omega
    have kl1 : w.heap.size + 1 < w2.heap.size := by omega
    have kn1 : ¬ w.heap.size + 1 = w2.heap.size := by omega
    have km1 : ¬ w2.heap.size = w.heap.size + 1 := by omega
    have kl2 : w1.heap.size < w2.heap.size := by omega
    have kn2 : ¬ w1.heap.size = w2.heap.size := by omega
    have km2 : ¬ w2.heap.size = w1.heap.size := by omega
    have HB := Lib.hid (show Below w.heap.size w w2 from by exact HB.out.trans ((show Below _ _ _ from ((Below.refl _ _).alloc (by omega) _)).trans (hb.mono (by first | omega | (simp <;> omega)))))
    have HR := Lib.hid ((show Room _ (w.heap.size + 1) 1 from (HR.out.alloc (by omega) _)).below hb (by first | omega | (simp <;> omega)))
    clear ho hb
    go_wp2
    refine bodyPost_ret (v := .tuple #[.agg #[.int .i64 0, .int .i64 0, .int .i64 0], .bool false]) (by simp [results, Try.results25, go_sem, *]) rfl (FrOut.no HG.out ?_)
    (repeat' first | (with_reducible exact HB.out) | with_reducible refine setCells_below _ _ _ ?_ (by first | omega | (simp <;> omega)) | with_reducible refine Below.setCell ?_ (by show _ ≤ _; first | omega | (simp <;> omega) | simp) _ | with_reducible refine Below.alloc ?_ (by first | omega | (simp <;> omega)) _ | with_reducible apply Below.drew)
  cases h2 : (fPower a.y).2
  · have HG : Hid ((jPow a) = (fz, false)) := by show _ = _; simp [jPow, h1, h2]
    go_enter Try.func25, Try.ntmps25
    go_wp2_with fail
    refine (sppower_fr a.x _).mono ?_
    rintro e w1 ho
    obtain ⟨rfl, hb⟩ := ho.fn
    have kc0 := fun o => hb.cell (p := ⟨w.heap.size, o, none⟩) (by show w.heap.size < _; first | omega | (simp <;> omega))
    have kc1 := fun o => hb.cell (p := ⟨w.heap.size + 1, o, none⟩) (by show w.heap.size + 1 < _; first | omega | (simp <;> omega))
    have kf0 := fun o => hb.frozen (p := ⟨w.heap.size + 1, o, none⟩) (by show w.heap.size + 1 < _; first | omega | (simp <;> omega))
    have hz := hb.size
    (try simp at hz)
    have kl0 : w.heap.size < w1.heap.size := by omega
    have kn0 : ¬ w.heap.size = w1.heap.size := by omega
    have km0 : ¬ w1.heap.size = w.heap.size := by omega
    have kl1 : w.heap.size + 1 < w1.heap.size := by omega
    have kn1 : ¬ w.heap.size + 1 = w1.heap.size := by omega
    have km1 : ¬ w1.heap.size = w.heap.size + 1 := by omega
    have HB := Lib.hid (show Below w.heap.size w w1 from by (repeat' first | exact Below.refl _ _ | apply bl_alloc | apply bl_drewN | apply bl_drew | refine bl_trans ?_ (by assumption) | refine bl_set ?_ (by first | omega | (simp <;> omega)) _))
    have HR := Lib.hid ((show Room _ (w.heap.size + 1) 1 from (Room.new' (by simp) rfl)).below hb (by first | omega | (simp <;> omega)))
    clear ho hb
    go_wp2_with fail
    refine (sppower_fr a.y _).mono ?_
    rintro e w2 ho
    obtain ⟨rfl, hb⟩ := ho.fn
    have kc0 := fun o => hb.cell (p := ⟨w.heap.size, o, none⟩) (by show w.heap.size < _; first | omega | (simp <;> omega))
    have kc1 := fun o => hb.cell (p := ⟨w.heap.size + 1, o, none⟩) (by show w.heap.size + 1 < _; first | omega | (simp <;> omega))
    have kc2 := fun o => hb.cell (p := ⟨w1.heap.size, o, none⟩) (by show w1.heap.size < _; first | omega | (simp <;> omega))
    have kf0 := fun o => hb.frozen (p := ⟨w.heap.size + 1, o, none⟩) (by show w.heap.size + 1 < _; first | omega | (simp <;> omega))
    have hz := hb.size
    (try simp at hz)
    have kl0 : w.heap.size < w2.heap.size := by omega
    have kn0 : ¬ w.heap.size = w2.heap.size := by omega
    have km0 : ¬ w2.heap.size = w.heap.size := by omega
    have kl1 : w.heap.size + 1 < w2.heap.size := by omega
    have kn1 : ¬ w.heap.size + 1 = w2.heap.size := by omega
    have km1 : ¬ w2.heap.size = w.heap.size + 1 := by omega
    have kl2 : w1.heap.size < w2.heap.size := by omega
    have kn2 : ¬ w1.heap.size = w2.heap.size := by omega
    have km2 : ¬ w2.heap.size = w1.heap.size := by omega
    have HB := Lib.hid (show Below w.heap.size w w2 from by exact HB.out.trans ((show Below _ _ _ from ((Below.refl _ _).alloc (by omega) _)).trans (hb.mono (by first | omega | (simp <;> omega)))))
    have HR := Lib.hid ((show Room _ (w.heap.size + 1) 1 from (HR.out.alloc (by omega) _)).below hb (by first | omega | (simp <;> omega)))
    clear ho hb
    go_wp2
    refine bodyPost_ret (v := .tuple #[.agg #[.int .i64 0, .int .i64 0, .int .i64 0], .bool false]) (by simp [results, Try.results25, go_sem, *]) rfl (FrOut.no HG.out ?_)
    (repeat' first | (with_reducible exact HB.out) | with_reducible refine setCells_below _ _ _ ?_ (by first | omega | (simp <;> omega)) | with_reducible refine Below.setCell ?_ (by show _ ≤ _; first | omega | (simp <;> omega) | simp) _ | with_reducible refine Below.alloc ?_ (by first | omega | (simp <;> omega)) _ | with_reducible apply Below.drew)
  · have HG : Hid ((jPow a) = fAdd (fPower a.x).1 (fPower a.y).1) := by show _ = _; simp [jPow, h1, h2]
    go_enter Try.func25, Try.ntmps25
    go_wp2_with fail
    refine (sppower_fr a.x _).mono ?_
    rintro e w1 ho
    obtain ⟨rfl, hb⟩ := ho.fn
    have kc0 := fun o => hb.cell (p := ⟨w.heap.size, o, none⟩) (by show w.heap.size < _; first | omega | (simp <;> omega))
    have kc1 := fun o => hb.cell (p := ⟨w.heap.size + 1, o, none⟩) (by show w.heap.size + 1 < _; first | omega | (simp <;> omega))
    have kf0 := fun o => hb.frozen (p := ⟨w.heap.size + 1, o, none⟩) (by show w.heap.size + 1 < _; first | omega | (simp <;> omega))
    have hz := hb.size
    (try simp at hz)
    have kl0 : w.heap.size < w1.heap.size := by omega
    have kn0 : ¬ w.heap.size = w1.heap.size := by omega
    have km0 : ¬ w1.heap.size = w.heap.size := by omega
    have kl1 : w.heap.size + 1 < w1.heap.size := by omega
    have kn1 : ¬ w.heap.size + 1 = w1.heap.size := by omega
    have km1 : ¬ w1.heap.size = w.heap.size + 1 := by omega
    have HB := Lib.hid (show Below w.heap.size w w1 from by (repeat' first | exact Below.refl _ _ | apply bl_alloc | apply bl_drewN | apply bl_drew | refine bl_trans ?_ (by assumption) | refine bl_set ?_ (by first | omega | (simp <;> omega)) _))
    have HR := Lib.hid ((show Room _ (w.heap.size + 1) 1 from (Room.new' (by simp) rfl)).below hb (by first | omega | (simp <;> omega)))
    clear ho hb
    go_wp2_with fail
    refine (sppower_fr a.y _).mono ?_
    rintro e w2 ho
    obtain ⟨rfl, hb⟩ := ho.fn
    have kc0 := fun o => hb.cell (p := ⟨w.heap.size, o, none⟩) (by show w.heap.size < _; first | omega | (simp <;> omega))
    have kc1 := fun o => hb.cell (p := ⟨w.heap.size + 1, o, none⟩) (by show w.heap.size + 1 < _; first | omega | (simp <;> omega))
    have kc2 := fun o => hb.cell (p := ⟨w1.heap.size, o, none⟩) (by show w1.heap.size < _; first | omega | (simp <;> omega))
    have kf0 := fun o => hb.frozen (p := ⟨w.heap.size + 1, o, none⟩) (by show w.heap.size + 1 < _; first | omega | (simp <;> omega))
    have hz := hb.size
    (try simp at hz)
    have kl0 : w.heap.size < w2.heap.size := by omega
    have kn0 : ¬ w.heap.size = w2.heap.size := by omega
    have km0 : ¬ w2.heap.size = w.heap.size := by omega
    have kl1 : w.heap.size + 1 < w2.heap.size := by omega
    have kn1 : ¬ w.heap.size + 1 = w2.heap.size := by omega
    have km1 : ¬ w2.heap.size = w.heap.size + 1 := by omega
    have kl2 : w1.heap.size < w2.heap.size := by omega
    have kn2 : ¬ w1.heap.size = w2.heap.size := by omega
    have km2 : ¬ w2.heap.size = w1.heap.size := by omega
    have HB := Lib.hid (show Below w.heap.size w w2 from by exact HB.out.trans ((show Below _ _ _ from ((Below.refl _ _).alloc (by omega) _)).trans (hb.mono (by first | omega | (simp <;> omega)))))
    have HR := Lib.hid ((show Room _ (w.heap.size + 1) 1 from (HR.out.alloc (by omega) _)).below hb (by first | omega | (simp <;> omega)))
    clear ho hb
    go_wp2_with fail
    refine (spadd_fr _ _ _).mono ?_
    rintro e w3 ho
    rw [← HG.out] at ho
    obtain ⟨rfl, hb⟩ := ho.fn
    have kc0 := fun o => hb.cell (p := ⟨w.heap.size + 1, o, none⟩) (by show w.heap.size + 1 < _; first | omega | (simp <;> omega))
    have kf0 := fun o => hb.frozen (p := ⟨w.heap.size + 1, o, none⟩) (by show w.heap.size + 1 < _; first | omega | (simp <;> omega))
    have hz := hb.size
    (try simp at hz)
    have kl0 : w.heap.size + 1 < w3.heap.size := by omega
    have kn0 : ¬ w.heap.size + 1 = w3.heap.size := by omega
    have km0 : ¬ w3.heap.size = w.heap.size + 1 := by omega
    have HB := Lib.hid (show Below w.heap.size w w3 from by exact HB.out.trans ((show Below _ _ _ from ((Below.refl _ _).alloc (by omega) _)).trans (hb.mono (by first | omega | (simp <;> omega)))))
    have HR := Lib.hid ((show Room _ (w.heap.size + 1) 1 from (HR.out.alloc (by omega) _)).below hb (by first | omega | (simp <;> omega)))
    clear ho hb
    go_wp2
    refine bodyPost_ret (v := .tuple #[.agg #[.int .i64 ((jPow a)).1.re, .int .i64 ((jPow a)).1.im, .int .i64 ((jPow a)).1.den], .bool ((jPow a)).2]) (by simp [results, Try.results25, go_sem, *]) rfl (FrOut.self ?_)
    (repeat' first | (with_reducible exact HB.out) | with_reducible refine setCells_below _ _ _ ?_ (by first | omega | (simp <;> omega)) | with_reducible refine Below.setCell ?_ (by show _ ≤ _; first | omega | (simp <;> omega) | simp) _ | with_reducible refine Below.alloc ?_ (by first | omega | (simp <;> omega)) _ | with_reducible apply Below.drew)
set_option maxRecDepth 100000 in
set_option maxHeartbeats 8000000 in
theorem l3in_any (a : Fr) (b : Fr) (c : Fr) (d : Fr) (w : World) :
    Calls Try.prog 58 #[.agg #[.int .i64 a.re, .int .i64 a.im, .int .i64 a.den], .agg #[.int .i64 b.re, .int .i64 b.im, .int .i64 b.den], .agg #[.int .i64 c.re, .int .i64 c.im, .int .i64 c.den], .agg #[.int .i64 d.re, .int .i64 d.im, .int .i64 d.den]] w (FrOut (fIn a b c d) w) := by
  cases h1 : (fTimes a b).2
  · have HG : Hid ((fIn a b c d) = (fz, false)) := by show _ = _; simp [fIn, h1]
    go_enter Try.func58, Try.ntmps58
    go_wp2_with fail
    refine (sptimes_fr a b _).mono ?_
    rintro e w1 ho
    obtain ⟨rfl, hb⟩ := ho.fn
    have kc0 := fun o => hb.cell (p := ⟨w.heap.size, o, none⟩) (by show w.heap.size < _; first | omega | (simp <;> omega))
    have kc1 := fun o => hb.cell (p := ⟨w.heap.size + 1, o, none⟩) (by show w.heap.size + 1 < _; first | omega | (simp <;> omega))
    have kc2 := fun o => hb.cell (p := ⟨w.heap.size + 1 + 1, o, none⟩) (by show w.heap.size + 1 + 1 < _; first | omega | (simp <;> omega))
    have kc3 := fun o => hb.cell (p := ⟨w.heap.size + 1 + 1 + 1, o, none⟩) (by show w.heap.size + 1 + 1 + 1 < _; first | omega | (simp <;> omega))
    have kc4 := fun o => hb.cell (p := ⟨w.heap.size + 1 + 1 + 1 + 1, o, none⟩) (by show w.heap.size + 1 + 1 + 1 + 1 < _; first | omega | (simp <;> omega))
    have kf0 := fun o => hb.frozen (p := ⟨w.heap.size + 1 + 1 + 1 + 1, o, none⟩) (by show w.heap.size + 1 + 1 + 1 + 1 < _; first | omega | (simp <;> omega))
    have hz := hb.size
    (try simp at hz)
    have kl0 : w.heap.size < w1.heap.size := by omega
    have kn0 : ¬ w.heap.size = w1.heap.size := by omega
    have km0 : ¬ w1.heap.size = w.heap.size := by omega
    have kl1 : w.heap.size + 1 < w1.heap.size := by omega
    have kn1 : ¬ w.heap.size + 1 = w1.heap.size := by omega
    have km1 : ¬ w1.heap.size = w.heap.size + 1 := by omega
    have kl2 : w.heap.size + 1 + 1 < w1.heap.size := by omega
    have kn2 : ¬ w.heap.size + 1 + 1 = w1.heap.size := by omega
    have km2 : ¬ w1.heap.size = w.heap.size + 1 + 1 := by omega
    have kl3 : w.heap.size + 1 + 1 + 1 < w1.heap.size := by omega
    have kn3 : ¬ w.heap.size + 1 + 1 + 1 = w1.heap.size := by omega
    have km3 : ¬ w1.heap.size = w.heap.size + 1 + 1 + 1 := by omega
    have kl4 : w.heap.size + 1 + 1 + 1 + 1 < w1.heap.size := by omega
    have kn4 : ¬ w.heap.size + 1 + 1 + 1 + 1 = w1.heap.size := by omega
    have km4 : ¬ w1.heap.size = w.heap.size + 1 + 1 + 1 + 1 := by omega
    have HB := Lib.hid (show Below w.heap.size w w1 from by (repeat' first | exact Below.refl _ _ | apply bl_alloc | apply bl_drewN | apply bl_drew | refine bl_trans ?_ (by assumption) | refine bl_set ?_ (by first | omega | (simp <;> omega)) _))
    have HR := Lib.hid ((show Room _ (w.heap.size + 1 + 1 + 1 + 1) 1 from (Room.new' (by simp) rfl)).below hb (by first | omega | (simp <;> omega)))
    clear ho hb
    go_wp2_with fail
    refine (sptimes_fr c d _).mono ?_
    rintro e w2 ho
    obtain ⟨rfl, hb⟩ := ho.fn
    have kc0 := fun o => hb.cell (p := ⟨w.heap.size, o, none⟩) (by show w.heap.size < _; first | omega | (simp <;> omega))
    have kc1 := fun o => hb.cell (p := ⟨w.heap.size + 1, o, none⟩) (by show w.heap.size + 1 < _; first | omega | (simp <;> omega))
    have kc2 := fun o => hb.cell (p := ⟨w.heap.size + 1 + 1, o, none⟩) (by show w.heap.size + 1 + 1 < _; first | omega | (simp <;> omega))
    have kc3 := fun o => hb.cell (p := ⟨w.heap.size + 1 + 1 + 1, o, none⟩) (by show w.heap.size + 1 + 1 + 1 < _; first | omega | (simp <;> omega))
    have kc4 := fun o => hb.cell (p := ⟨w.heap.size + 1 + 1 + 1 + 1, o, none⟩) (by show w.heap.size + 1 + 1 + 1 + 1 < _; first | omega | (simp <;> omega))
    have kc5 := fun o => hb.cell (p := ⟨w1.heap.size, o, none⟩) (by show w1.heap.size < _; first | omega | (simp <;> omega))
    have kf0 := fun o => hb.frozen (p := ⟨w.heap.size + 1 + 1 + 1 + 1, o, none⟩) (by show w.heap.size + 1 + 1 + 1 + 1 < _; first | omega | (simp <;> omega))
    have hz := hb.size
    (try simp at hz)
    have kl0 : w.heap.size < w2.heap.size := by omega
    have kn0 : ¬ w.heap.size = w2.heap.size := by omega
    have km0 : ¬ w2.heap.size = w.heap.size := by omega
    have kl1 : w.heap.size + 1 < w2.heap.size := by omega
    have kn1 : ¬ w.heap.size + 1 = w2.heap.size := by omega
    have km1 : ¬ w2.heap.size = w.heap.size + 1 := by omega
    have kl2 : w.heap.size + 1 + 1 < w2.heap.size := by omega
    have kn2 : ¬ w.heap.size + 1 + 1 = w2.heap.size := by omega
    have km2 : ¬ w2.heap.size = w.heap.size + 1 + 1 := by omega
    have kl3 : w.heap.size + 1 + 1 + 1 < w2.heap.size := by omega
    have kn3 : ¬ w.heap.size + 1 + 1 + 1 = w2.heap.size := by omega
    have km3 : ¬ w2.heap.size = w.heap.size + 1 + 1 + 1 := by omega
    have kl4 : w.heap.size + 1 + 1 + 1 + 1 < w2.heap.size := by omega
    have kn4 : ¬ w.heap.size + 1 + 1 + 1 + 1 = w2.heap.size := by omega
    have km4 : ¬ w2.heap.size = w.heap.size + 1 + 1 + 1 + 1 := by omega
    have kl5 : w1.heap.size < w2.heap.size := by omega
    have kn5 : ¬ w1.heap.size = w2.heap.size := by omega
    have km5 : ¬ w2.heap.size = w1.heap.size := by omega
    have HB := Lib.hid (show Below w.heap.size w w2 from by exact HB.out.trans ((show Below _ _ _ from ((Below.refl _ _).alloc (by omega) _)).trans (hb.mono (by first | omega | (simp <;> omega)))))
    have HR := Lib.hid ((show Room _ (w.heap.size + 1 + 1 + 1 + 1) 1 from (HR.out.alloc (by omega) _)).below hb (by first | omega | (simp <;> omega)))
    clear ho hb
    go_wp2
    refine bodyPost_ret (v := .tuple #[.agg #[.int .i64 0, .int .i64 0, .int .i64 0], .bool false]) (by simp [results, Try.results58, go_sem, *]) rfl (FrOut.no HG.out ?_)
    (repeat' first | (with_reducible exact HB.out) | with_reducible refine setCells_below _ _ _ ?_ (by first | omega | (simp <;> omega)) | with_reducible refine Below.setCell ?_ (by show _ ≤ _; first | omega | (simp <;> omega) | simp) _ | with_reducible refine Below.alloc ?_ (by first | omega | (simp <;> omega)) _ | with_reducible apply Below.drew)
  cases h2 : (fTimes c d).2
  · have HG : Hid ((fIn a b c d) = (fz, false)) := by show _ = _; simp [fIn, h1, h2]
    go_enter Try.func58, Try.ntmps58
    go_wp2_with fail
    refine (sptimes_fr a b _).mono ?_
    rintro e w1 ho
    obtain ⟨rfl, hb⟩ := ho.fn
    have kc0 := fun o => hb.cell (p := ⟨w.heap.size, o, none⟩) (by show w.heap.size < _; first | omega | (simp <;> omega))
    have kc1 := fun o => hb.cell (p := ⟨w.heap.size + 1, o, none⟩) (by show w.heap.size + 1 < _; first | omega | (simp <;> omega))
    have kc2 := fun o => hb.cell (p := ⟨w.heap.size + 1 + 1, o, none⟩) (by show w.heap.size + 1 + 1 < _; first | omega | (simp <;> omega))
    have kc3 := fun o => hb.cell (p := ⟨w.heap.size + 1 + 1 + 1, o, none⟩) (by show w.heap.size + 1 + 1 + 1 < _; first | omega | (simp <;> omega))
    have kc4 := fun o => hb.cell (p := ⟨w.heap.size + 1 + 1 + 1 + 1, o, none⟩) (by show w.heap.size + 1 + 1 + 1 + 1 < _; first | omega | (simp <;> omega))
    have kf0 := fun o => hb.frozen (p := ⟨w.heap.size + 1 + 1 + 1 + 1, o, none⟩) (by show w.heap.size + 1 + 1 + 1 + 1 < _; first | omega | (simp <;> omega))
    have hz := hb.size
    (try simp at hz)
    have kl0 : w.heap.size < w1.heap.size := by omega
    have kn0 : ¬ w.heap.size = w1.heap.size := by omega
    have km0 : ¬ w1.heap.size = w.heap.size := by omega
    have kl1 : w.heap.size + 1 < w1.heap.size := by omega
    have kn1 : ¬ w.heap.size + 1 = w1.heap.size := by omega
    have km1 : ¬ w1.heap.size = w.heap.size + 1 := by omega
    have kl2 : w.heap.size + 1 + 1 < w1.heap.size := by omega
    have kn2 : ¬ w.heap.size + 1 + 1 = w1.heap.size := by omega
    have km2 : ¬ w1.heap.size = w.heap.size + 1 + 1 := by omega
    have kl3 : w.heap.size + 1 + 1 + 1 < w1.heap.size := by omega
    have kn3 : ¬ w.heap.size + 1 + 1 + 1 = w1.heap.size := by omega
    have km3 : ¬ w1.heap.size = w.heap.size + 1 + 1 + 1 := by omega
    have kl4 : w.heap.size + 1 + 1 + 1 + 1 < w1.heap.size := by omega
    have kn4 : ¬ w.heap.size + 1 + 1 + 1 + 1 = w1.heap.size := by omega
    have km4 : ¬ w1.heap.size = w.heap.size + 1 + 1 + 1 + 1 := by omega
    have HB := Lib.hid (show Below w.heap.size w w1 from by (repeat' first | exact Below.refl _ _ | apply bl_alloc | apply bl_drewN | apply bl_drew | refine bl_trans ?_ (by assumption) | refine bl_set ?_ (by first | omega | (simp <;> omega)) _))
    have HR := Lib.hid ((show Room _ (w.heap.size + 1 + 1 + 1 + 1) 1 from (Room.new' (by simp) rfl)).below hb (by first | omega | (simp <;> omega)))
    clear ho hb
    go_wp2_with fail
    refine (sptimes_fr c d _).mono ?_
    rintro e w2 ho
    obtain ⟨rfl, hb⟩ := ho.fn
    have kc0 := fun o => hb.cell (p := ⟨w.heap.size, o, none⟩) (by show w.heap.size < _; first | omega | (simp <;> omega))
    have kc1 := fun o => hb.cell (p := ⟨w.heap.size + 1, o, none⟩) (by show w.heap.size + 1 < _; first | omega | (simp <;> omega))
    have kc2 := fun o => hb.cell (p := ⟨w.heap.size + 1 + 1, o, none⟩) (by show w.heap.size + 1 + 1 < _; first | omega | (simp <;> omega))
    have kc3 := fun o => hb.cell (p := ⟨w.heap.size + 1 + 1 + 1, o, none⟩) (by show w.heap.size + 1 + 1 + 1 < _; first | omega | (simp <;> omega))
    have kc4 := fun o => hb.cell (p := ⟨w.heap.size + 1 + 1 + 1 + 1, o, none⟩) (by show w.heap.size + 1 + 1 + 1 + 1 < _; first | omega | (simp <;> omega))
    have kc5 := fun o => hb.cell (p := ⟨w1.heap.size, o, none⟩) (by show w1.heap.size < _; first | omega | (simp <;> omega))
    have kf0 := fun o => hb.frozen (p := ⟨w.heap.size + 1 + 1 + 1 + 1, o, none⟩) (by show w.heap.size + 1 + 1 + 1 + 1 < _; first | omega | (simp <;> omega))
    have hz := hb.size
    (try simp at hz)
    have kl0 : w.heap.size < w2.heap.size := by omega
    have kn0 : ¬ w.heap.size = w2.heap.size := by omega
    have km0 : ¬ w2.heap.size = w.heap.size := by omega
    have kl1 : w.heap.size + 1 < w2.heap.size := by omega
    have kn1 : ¬ w.heap.size + 1 = w2.heap.size := by omega
    have km1 : ¬ w2.heap.size = w.heap.size + 1 := by omega
    have kl2 : w.heap.size + 1 + 1 < w2.heap.size := by omega
    have kn2 : ¬ w.heap.size + 1 + 1 = w2.heap.size := by omega
    have km2 : ¬ w2.heap.size = w.heap.size + 1 + 1 := by omega
    have kl3 : w.heap.size + 1 + 1 + 1 < w2.heap.size := by omega
    have kn3 : ¬ w.heap.size + 1 + 1 + 1 = w2.heap.size := by omega
    have km3 : ¬ w2.heap.size = w.heap.size + 1 + 1 + 1 := by omega
    have kl4 : w.heap.size + 1 + 1 + 1 + 1 < w2.heap.size := by omega
    have kn4 : ¬ w.heap.size + 1 + 1 + 1 + 1 = w2.heap.size := by omega
    have km4 : ¬ w2.heap.size = w.heap.size + 1 + 1 + 1 + 1 := by omega
    have kl5 : w1.heap.size < w2.heap.size := by omega
    have kn5 : ¬ w1.heap.size = w2.heap.size := by omega
    have km5 : ¬ w2.heap.size = w1.heap.size := by omega
    have HB := Lib.hid (show Below w.heap.size w w2 from by exact HB.out.trans ((show Below _ _ _ from ((Below.refl _ _).alloc (by omega) _)).trans (hb.mono (by first | omega | (simp <;> omega)))))
    have HR := Lib.hid ((show Room _ (w.heap.size + 1 + 1 + 1 + 1) 1 from (HR.out.alloc (by omega) _)).below hb (by first | omega | (simp <;> omega)))
    clear ho hb
    go_wp2
    refine bodyPost_ret (v := .tuple #[.agg #[.int .i64 0, .int .i64 0, .int .i64 0], .bool false]) (by simp [results, Try.results58, go_sem, *]) rfl (FrOut.no HG.out ?_)
    (repeat' first | (with_reducible exact HB.out) | with_reducible refine setCells_below _ _ _ ?_ (by first | omega | (simp <;> omega)) | with_reducible refine Below.setCell ?_ (by show _ ≤ _; first | omega | (simp <;> omega) | simp) _ | with_reducible refine Below.alloc ?_ (by first | omega | (simp <;> omega)) _ | with_reducible apply Below.drew)
  · have HG : Hid ((fIn a b c d) = fAdd (fTimes a b).1 (fTimes c d).1) := by show _ = _; simp [fIn, h1, h2]
    go_enter Try.func58, Try.ntmps58
    go_wp2_with fail
    refine (sptimes_fr a b _).mono ?_
    rintro e w1 ho
    obtain ⟨rfl, hb⟩ := ho.fn
    have kc0 := fun o => hb.cell (p := ⟨w.heap.size, o, none⟩) (by show w.heap.size < _; first | omega | (simp <;> omega))
    have kc1 := fun o => hb.cell (p := ⟨w.heap.size + 1, o, none⟩) (by show w.heap.size + 1 < _; first | omega | (simp <;> omega))
    have kc2 := fun o => hb.cell (p := ⟨w.heap.size + 1 + 1, o, none⟩) (by show w.heap.size + 1 + 1 < _; first | omega | (simp <;> omega))
    have kc3 := fun o => hb.cell (p := ⟨w.heap.size + 1 + 1 + 1, o, none⟩) (by show w.heap.size + 1 + 1 + 1 < _; first | omega | (simp <;> omega))
    have kc4 := fun o => hb.cell (p := ⟨w.heap.size + 1 + 1 + 1 + 1, o, none⟩) (by show w.heap.size + 1 + 1 + 1 + 1 < _; first | omega | (simp <;> omega))
    have kf0 := fun o => hb.frozen (p := ⟨w.heap.size + 1 + 1 + 1 + 1, o, none⟩) (by show w.heap.size + 1 + 1 + 1 + 1 < _; first | omega | (simp <;> omega))
    have hz := hb.size
    (try simp at hz)
    have kl0 : w.heap.size < w1.heap.size := by omega
    have kn0 : ¬ w.heap.size = w1.heap.size := by omega
    have km0 : ¬ w1.heap.size = w.heap.size := by omega
    have kl1 : w.heap.size + 1 < w1.heap.size := by omega
    have kn1 : ¬ w.heap.size + 1 = w1.heap.size := by omega
    have km1 : ¬ w1.heap.size = w.heap.size + 1 := by omega
    have kl2 : w.heap.size + 1 + 1 < w1.heap.size := by omega
    have kn2 : ¬ w.heap.size + 1 + 1 = w1.heap.size := by omega
    have km2 : ¬ w1.heap.size = w.heap.size + 1 + 1 := by omega
    have kl3 : w.heap.size + 1 + 1 + 1 < w1.heap.size := by omega
    have kn3 : ¬ w.heap.size + 1 + 1 + 1 = w1.heap.size := by omega
    have km3 : ¬ w1.heap.size = w.heap.size + 1 + 1 + 1 := by omega
    have kl4 : w.heap.size + 1 + 1 + 1 + 1 < w1.heap.size := by omega
    have kn4 : ¬ w.heap.size + 1 + 1 + 1 + 1 = w1.heap.size := by omega
    have km4 : ¬ w1.heap.size = w.heap.size + 1 + 1 + 1 + 1 := by omega
    have HB := Lib.hid (show Below w.heap.size w w1 from by (repeat' first | exact Below.refl _ _ | apply bl_alloc | apply bl_drewN | apply bl_drew | refine bl_trans ?_ (by assumption) | refine bl_set ?_ (by first | omega | (simp <;> omega)) _))
    have HR := Lib.hid ((show Room _ (w.heap.size + 1 + 1 + 1 + 1) 1 from (Room.new' (by simp) rfl)).below hb (by first | omega | (simp <;> omega)))
    clear ho hb
    go_wp2_with fail
    refine (sptimes_fr c d _).mono ?_
    rintro e w2 ho
    obtain ⟨rfl, hb⟩ := ho.fn
    have kc0 := fun o => hb.cell (p := ⟨w.heap.size, o, none⟩) (by show w.heap.size < _; first | omega | (simp <;> omega))
    have kc1 := fun o => hb.cell (p := ⟨w.heap.size + 1, o, none⟩) (by show w.heap.size + 1 < _; first | omega | (simp <;> omega))
    have kc2 := fun o => hb.cell (p := ⟨w.heap.size + 1 + 1, o, none⟩) (by show w.heap.size + 1 + 1 < _; first | omega | (simp <;> omega))
    have kc3 := fun o => hb.cell (p := ⟨w.heap.size + 1 + 1 + 1, o, none⟩) (by show w.heap.size + 1 + 1 + 1 < _; first | omega | (simp <;> omega))
    have kc4 := fun o => hb.cell (p := ⟨w.heap.size + 1 + 1 + 1 + 1, o, none⟩) (by show w.heap.size + 1 + 1 + 1 + 1 < _; first | omega | (simp <;> omega))
    have kc5 := fun o => hb.cell (p := ⟨w1.heap.size, o, none⟩) (by show w1.heap.size < _; first | omega | (simp <;> omega))
    have kf0 := fun o => hb.frozen (p := ⟨w.heap.size + 1 + 1 + 1 + 1, o, none⟩) (by show w.heap.size + 1 + 1 + 1 + 1 < _; first | omega | (simp <;> omega))
    have hz := hb.size
    (try simp at hz)
    have kl0 : w.heap.size < w2.heap.size := by omega
    have kn0 : ¬ w.heap.size = w2.heap.size := by omega
    have km0 : ¬ w2.heap.size = w.heap.size := by omega
    have kl1 : w.heap.size + 1 < w2.heap.size := by omega
    have kn1 : ¬ w.heap.size + 1 = w2.heap.size := by omega
    have km1 : ¬ w2.heap.size = w.heap.size + 1 := by omega
    have kl2 : w.heap.size + 1 + 1 < w2.heap.size := by omega
    have kn2 : ¬ w.heap.size + 1 + 1 = w2.heap.size := by omega
    have km2 : ¬ w2.heap.size = w.heap.size + 1 + 1 := by omega
    have kl3 : w.heap.size + 1 + 1 + 1 < w2.heap.size := by omega
    have kn3 : ¬ w.heap.size + 1 + 1 + 1 = w2.heap.size := by omega
    have km3 : ¬ w2.heap.size = w.heap.size + 1 + 1 + 1 := by omega
    have kl4 : w.heap.size + 1 + 1 + 1 + 1 < w2.heap.size := by omega
    have kn4 : ¬ w.heap.size + 1 + 1 + 1 + 1 = w2.heap.size := by omega
    have km4 : ¬ w2.heap.size = w.heap.size + 1 + 1 + 1 + 1 := by omega
    have kl5 : w1.heap.size < w2.heap.size := by omega
    have kn5 : ¬ w1.heap.size = w2.heap.size := by omega
    have km5 : ¬ w2.heap.size = w1.heap.size := by omega
    have HB := Lib.hid (show Below w.heap.size w w2 from by exact HB.out.trans ((show Below _ _ _ from ((Below.refl _ _).alloc (by omega) _)).trans (hb.mono (by first | omega | (simp <;> omega)))))
    have HR := Lib.hid ((show Room _ (w.heap.size + 1 + 1 + 1 + 1) 1 from (HR.out.alloc (by omega) _)).below hb (by first | omega | (simp <;> omega)))
    clear ho hb
    go_wp2_with fail
    refine (spadd_fr _ _ _).mono ?_
    rintro e w3 ho
    rw [← HG.out] at ho
    obtain ⟨rfl, hb⟩ := ho.fn
    have kc0 := fun o => hb.cell (p := ⟨w.heap.size + 1 + 1 + 1 + 1, o, none⟩) (by show w.heap.size + 1 + 1 + 1 + 1 < _; first | omega | (simp <;> omega))
    have kf0 := fun o => hb.frozen (p := ⟨w.heap.size + 1 + 1 + 1 + 1, o, none⟩) (by show w.heap.size + 1 + 1 + 1 + 1 < _; first | omega | (simp <;> omega))
    have hz := hb.size
    (try simp at hz)
    have kl0 : w.heap.size + 1 + 1 + 1 + 1 < w3.heap.size := by omega
    have kn0 : ¬ w.heap.size + 1 + 1 + 1 + 1 = w3.heap.size := by omega
    have km0 : ¬ w3.heap.size = w.heap.size + 1 + 1 + 1 + 1 := by omega
    have HB := Lib.hid (show Below w.heap.size w w3 from by exact HB.out.trans ((show Below _ _ _ from ((Below.refl _ _).alloc (by omega) _)).trans (hb.mono (by first | omega | (simp <;> omega)))))
    have HR := Lib.hid ((show Room _ (w.heap.size + 1 + 1 + 1 + 1) 1 from (HR.out.alloc (by omega) _)).below hb (by first | omega | (simp <;> omega)))
    clear ho hb
    go_wp2
    refine bodyPost_ret (v := .tuple #[.agg #[.int .i64 ((fIn a b c d)).1.re, .int .i64 ((fIn a b c d)).1.im, .int .i64 ((fIn a b c d)).1.den], .bool ((fIn a b c d)).2]) (by simp [results, Try.results58, go_sem, *]) rfl (FrOut.self ?_)
    (repeat' first | (with_reducible exact HB.out) | with_reducible refine setCells_below _ _ _ ?_ (by first | omega | (simp <;> omega)) | with_reducible refine Below.setCell ?_ (by show _ ≤ _; first | omega | (simp <;> omega) | simp) _ | with_reducible refine Below.alloc ?_ (by first | omega | (simp <;> omega)) _ | with_reducible apply Below.drew)
set_option maxRecDepth 100000 in
set_option maxHeartbeats 8000000 in
theorem sjin_any (a : J2) (b : J2) (w : World) :
    Calls Try.prog 27 #[.agg #[.int .i64 a.x.re, .int .i64 a.x.im, .int .i64 a.x.den, .int .i64 a.y.re, .int .i64 a.y.im, .int .i64 a.y.den], .agg #[.int .i64 b.x.re, .int .i64 b.x.im, .int .i64 b.x.den, .int .i64 b.y.re, .int .i64 b.y.im, .int .i64 b.y.den]] w (FrOut (jIn a b) w) := by
  cases h1 : (fMirror b.x).2
  · have HG : Hid ((jIn a b) = (fz, false)) := by show _ = _; simp [jIn, h1]
    go_enter Try.func27, Try.ntmps27
    go_wp2_with fail
    refine (spmirror_fr b.x _).mono ?_
    rintro e w1 ho
    obtain ⟨rfl, hb⟩ := ho.fn
    have kc0 := fun o => hb.cell (p := ⟨w.heap.size, o, none⟩) (by show w.heap.size < _; first | omega | (simp <;> omega))
    have kc1 := fun o => hb.cell (p := ⟨w.heap.size + 1, o, none⟩) (by show w.heap.size + 1 < _; first | omega | (simp <;> omega))
    have kc2 := fun o => hb.cell (p := ⟨w.heap.size + 1 + 1, o, none⟩) (by show w.heap.size + 1 + 1 < _; first | omega | (simp <;> omega))
    have kf0 := fun o => hb.frozen (p := ⟨w.heap.size + 1 + 1, o, none⟩) (by show w.heap.size + 1 + 1 < _; first | omega | (simp <;> omega))
    have hz := hb.size
    (try simp at hz)
    have kl0 : w.heap.size < w1.heap.size := by omega
    have kn0 : ¬ w.heap.size = w1.heap.size := by omega
    have km0 : ¬ w1.heap.size = w.heap.size := by omega
    have kl1 : w.heap.size + 1 < w1.heap.size := by omega
    have kn1 : ¬ w.heap.size + 1 = w1.heap.size := by omega
    have km1 : ¬ w1.heap.size = w.heap.size + 1 := by omega
    have kl2 : w.heap.size + 1 + 1 < w1.heap.size := by omega
    have kn2 : ¬ w.heap.size + 1 + 1 = w1.heap.size := by omega
    have km2 : ¬ w1.heap.size = w.heap.size + 1 + 1 := by omega
    have HB := Lib.hid (show Below w.heap.size w w1 from by (repeat' first | exact Below.refl _ _ | apply bl_alloc | apply bl_drewN | apply bl_drew | refine bl_trans ?_ (by assumption) | refine bl_set ?_ (by first | omega | (simp <;> omega)) _))
    have HR := Lib.hid ((show Room _ (w.heap.size + 1 + 1) 1 from (Room.new' (by simp) rfl)).below hb (by first | omega | (simp <;> omega)))
    clear ho hb
    go_wp2_with fail
    refine (spmirror_fr b.y _).mono ?_
    rintro e w2 ho
    obtain ⟨rfl, hb⟩ := ho.fn
    have kc0 := fun o => hb.cell (p := ⟨w.heap.size, o, none⟩) (by show w.heap.size < _; first | omega | (simp <;> omega))
    have kc1 := fun o => hb.cell (p := ⟨w.heap.size + 1, o, none⟩) (by show w.heap.size + 1 < _; first | omega | (simp <;> omega))
    have kc2 := fun o => hb.cell (p := ⟨w.heap.size + 1 + 1, o, none⟩) (by show w.heap.size + 1 + 1 < _; first | omega | (simp <;> omega))
    have kc3 := fun o => hb.cell (p := ⟨w1.heap.size, o, none⟩) (by show w1.heap.size < _; first | omega | (simp <;> omega))
    have kf0 := fun o => hb.frozen (p := ⟨w.heap.size + 1 + 1, o, none⟩) (by show w.heap.size + 1 + 1 < _; first | omega | (simp <;> omega))
    have hz := hb.size
    (try simp at hz)
    have kl0 : w.heap.size < w2.heap.size := by omega
    have kn0 : ¬ w.heap.size = w2.heap.size := by omega
    have km0 : ¬ w2.heap.size = w.heap.size := by omega
    have kl1 : w.heap.size + 1 < w2.heap.size := by omega
    have kn1 : ¬ w.heap.size + 1 = w2.heap.size := by omega
    have km1 : ¬ w2.heap.size = w.heap.size + 1 := by omega
    have kl2 : w.heap.size + 1 + 1 < w2.heap.size := by omega
    have kn2 : ¬ w.heap.size + 1 + 1 = w2.heap.size := by omega
    have km2 : ¬ w2.heap.size = w.heap.size + 1 + 1 := by omega
    have kl3 : w1.heap.size < w2.heap.size := by omega
    have kn3 : ¬ w1.heap.size = w2.heap.size := by omega
    have km3 : ¬ w2.heap.size = w1.heap.size := by omega
    have HB := Lib.hid (show Below w.heap.size w w2 from by exact HB.out.trans ((show Below _ _ _ from ((Below.refl _ _).alloc (by omega) _)).trans (hb.mono (by first | omega | (simp <;> omega)))))
    have HR := Lib.hid ((show Room _ (w.heap.size + 1 + 1) 1 from (HR.out.alloc (by omega) _)).below hb (by first | omega | (simp <;> omega)))
    clear ho hb
    go_wp2
    refine bodyPost_ret (v := .tuple #[.agg #[.int .i64 0, .int .i64 0, .int .i64 0], .bool false]) (by simp [results, Try.results27, go_sem, *]) rfl (FrOut.no HG.out ?_)
    (repeat' first | (with_reducible exact HB.out) | with_reducible refine setCells_below _ _ _ ?_ (by first | omega | (simp <;> omega)) | with_reducible refine Below.setCell ?_ (by show _ ≤ _; first | omega | (simp <;> omega) | simp) _ | with_reducible refine Below.alloc ?_ (by first | omega | (simp <;> omega)) _ | with_reducible apply Below.drew)
  cases h2 : (fMirror b.y).2
  · have HG : Hid ((jIn a b) = (fz, false)) := by show _ = _; simp [jIn, h1, h2]
    go_enter Try.func27, Try.ntmps27
    go_wp2_with fail
    refine (spmirror_fr b.x _).mono ?_
    rintro e w1 ho
    obtain ⟨rfl, hb⟩ := ho.fn
    have kc0 := fun o => hb.cell (p := ⟨w.heap.size, o, none⟩) (by show w.heap.size < _; first | omega | (simp <;> omega))
    have kc1 := fun o => hb.cell (p := ⟨w.heap.size + 1, o, none⟩) (by show w.heap.size + 1 < _; first | omega | (simp <;> omega))
    have kc2 := fun o => hb.cell (p := ⟨w.heap.size + 1 + 1, o, none⟩) (by show w.heap.size + 1 + 1 < _; first | omega | (simp <;> omega))
    have kf0 := fun o => hb.frozen (p := ⟨w.heap.size + 1 + 1, o, none⟩) (by show w.heap.size + 1 + 1 < _; first | omega | (simp <;> omega))
    have hz := hb.size
    (try simp at hz)
    have kl0 : w.heap.size < w1.heap.size := by omega
    have kn0 : ¬ w.heap.size = w1.heap.size := by omega
    have km0 : ¬ w1.heap.size = w.heap.size := by omega
    have kl1 : w.heap.size + 1 < w1.heap.size := by omega
    have kn1 : ¬ w.heap.size + 1 = w1.heap.size := by omega
    have km1 : ¬ w1.heap.size = w.heap.size + 1 := by omega
    have kl2 : w.heap.size + 1 + 1 < w1.heap.size := by omega
    have kn2 : ¬ w.heap.size + 1 + 1 = w1.heap.size := by omega
    have km2 : ¬ w1.heap.size = w.heap.size + 1 + 1 := by omega
    have HB := Lib.hid (show Below w.heap.size w w1 from by (repeat' first | exact Below.refl _ _ | apply bl_alloc | apply bl_drewN | apply bl_drew | refine bl_trans ?_ (by assumption) | refine bl_set ?_ (by first | omega | (simp <;> omega)) _))
    have HR := Lib.hid ((show Room _ (w.heap.size + 1 + 1) 1 from (Room.new' (by simp) rfl)).below hb (by first | omega | (simp <;> omega)))
    clear ho hb
    go_wp2_with fail
    refine (spmirror_fr b.y _).mono ?_
    rintro e w2 ho
    obtain ⟨rfl, hb⟩ := ho.fn
    have kc0 := fun o => hb.cell (p := ⟨w.heap.size, o, none⟩) (by show w.heap.size < _; first | omega | (simp <;> omega))
    have kc1 := fun o => hb.cell (p := ⟨w.heap.size + 1, o, none⟩) (by show w.heap.size + 1 < _; first | omega | (simp <;> omega))
    have kc2 := fun o => hb.cell (p := ⟨w.heap.size + 1 + 1, o, none⟩) (by show w.heap.size + 1 + 1 < _; first | omega | (simp <;> omega))
    have kc3 := fun o => hb.cell (p := ⟨w1.heap.size, o, none⟩) (by show w1.heap.size < _; first | omega | (simp <;> omega))
    have kf0 := fun o => hb.frozen (p := ⟨w.heap.size + 1 + 1, o, none⟩) (by show w.heap.size + 1 + 1 < _; first | omega | (simp <;> omega))
    have hz := hb.size
    (try simp at hz)
    have kl0 : w.heap.size < w2.heap.size := by omega
    have kn0 : ¬ w.heap.size = w2.heap.size := by omega
    have km0 : ¬ w2.heap.size = w.heap.size := by omega
    have kl1 : w.heap.size + 1 < w2.heap.size := by omega
    have kn1 : ¬ w.heap.size + 1 = w2.heap.size := by omega
    have km1 : ¬ w2.heap.size = w.heap.size + 1 := by omega
    have kl2 : w.heap.size + 1 + 1 < w2.heap.size := by omega
    have kn2 : ¬ w.heap.size + 1 + 1 = w2.heap.size := by omega
    have km2 : ¬ w2.heap.size = w.heap.size + 1 + 1 := by omega
    have kl3 : w1.heap.size < w2.heap.size := by omega
    have kn3 : ¬ w1.heap.size = w2.heap.size := by omega
    have km3 : ¬ w2.heap.size = w1.heap.size := by omega
    have HB := Lib.hid (show Below w.heap.size w w2 from by exact HB.out.trans ((show Below _ _ _ from ((Below.refl _ _).alloc (by omega) _)).trans (hb.mono (by first | omega | (simp <;> omega)))))
    have HR := Lib.hid ((show Room _ (w.heap.size + 1 + 1) 1 from (HR.out.alloc (by omega) _)).below hb (by first | omega | (simp <;> omega)))
    clear ho hb
    go_wp2
    refine bodyPost_ret (v := .tuple #[.agg #[.int .i64 0, .int .i64 0, .int .i64 0], .bool false]) (by simp [results, Try.results27, go_sem, *]) rfl (FrOut.no HG.out ?_)
    (repeat' first | (with_reducible exact HB.out) | with_reducible refine setCells_below _ _ _ ?_ (by first | omega | (simp <;> omega)) | with_reducible refine Below.setCell ?_ (by show _ ≤ _; first | omega | (simp <;> omega) | simp) _ | with_reducible refine Below.alloc ?_ (by first | omega | (simp <;> omega)) _ | with_reducible apply Below.drew)
  · have HG : Hid ((jIn a b) = fIn a.x (fMirror b.x).1 a.y (fMirror b.y).1) := by show _ = _; simp [jIn, h1, h2]
    go_enter Try.func27, Try.ntmps27
    go_wp2_with fail
    refine (spmirror_fr b.x _).mono ?_
    rintro e w1 ho
    obtain ⟨rfl, hb⟩ := ho.fn
    have kc0 := fun o => hb.cell (p := ⟨w.heap.size, o, none⟩) (by show w.heap.size < _; first | omega | (simp <;> omega))
    have kc1 := fun o => hb.cell (p := ⟨w.heap.size + 1, o, none⟩) (by show w.heap.size + 1 < _; first | omega | (simp <;> omega))
    have kc2 := fun o => hb.cell (p := ⟨w.heap.size + 1 + 1, o, none⟩) (by show w.heap.size + 1 + 1 < _; first | omega | (simp <;> omega))
    have kf0 := fun o => hb.frozen (p := ⟨w.heap.size + 1 + 1, o, none⟩) (by show w.heap.size + 1 + 1 < _; first | omega | (simp <;> omega))
    have hz := hb.size
    (try simp at hz)
    have kl0 : w.heap.size < w1.heap.size := by omega
    have kn0 : ¬ w.heap.size = w1.heap.size := by omega
    have km0 : ¬ w1.heap.size = w.heap.size := by omega
    have kl1 : w.heap.size + 1 < w1.heap.size := by omega
    have kn1 : ¬ w.heap.size + 1 = w1.heap.size := by omega
    have km1 : ¬ w1.heap.size = w.heap.size + 1 := by omega
    have kl2 : w.heap.size + 1 + 1 < w1.heap.size := by omega
    have kn2 : ¬ w.heap.size + 1 + 1 = w1.heap.size := by omega
    have km2 : ¬ w1.heap.size = w.heap.size + 1 + 1 := by omega
    have HB := Lib.hid (show Below w.heap.size w w1 from by (repeat' first | exact Below.refl _ _ | apply bl_alloc | apply bl_drewN | apply bl_drew | refine bl_trans ?_ (by assumption) | refine bl_set ?_ (by first | omega | (simp <;> omega)) _))
    have HR := Lib.hid ((show Room _ (w.heap.size + 1 + 1) 1 from (Room.new' (by simp) rfl)).below hb (by first | omega | (simp <;> omega)))
    clear ho hb
    go_wp2_with fail
    refine (spmirror_fr b.y _).mono ?_
    rintro e w2 ho
    obtain ⟨rfl, hb⟩ := ho.fn
    have kc0 := fun o => hb.cell (p := ⟨w.heap.size, o, none⟩) (by show w.heap.size < _; first | omega | (simp <;> omega))
    have kc1 := fun o => hb.cell (p := ⟨w.heap.size + 1, o, none⟩) (by show w.heap.size + 1 < _; first | omega | (simp <;> omega))
    have kc2 := fun o => hb.cell (p := ⟨w.heap.size + 1 + 1, o, none⟩) (by show w.heap.size + 1 + 1 < _; first | omega | (simp <;> omega))
    have kc3 := fun o => hb.cell (p := ⟨w1.heap.size, o, none⟩) (by show w1.heap.size < _; first | omega | (simp <;> omega))
    have kf0 := fun o => hb.frozen (p := ⟨w.heap.size + 1 + 1, o, none⟩) (by show w.heap.size + 1 + 1 < _; first | omega | (simp <;> omega))
    have hz := hb.size
    (try simp at hz)
    have kl0 : w.heap.size < w2.heap.size := by omega
    have kn0 : ¬ w.heap.size = w2.heap.size := by omega
    have km0 : ¬ w2.heap.size = w.heap.size := by omega
    have kl1 : w.heap.size + 1 < w2.heap.size := by omega
    have kn1 : ¬ w.heap.size + 1 = w2.heap.size := by omega
    have km1 : ¬ w2.heap.size = w.heap.size + 1 := by omega
    have kl2 : w.heap.size + 1 + 1 < w2.heap.size := by omega
    have kn2 : ¬ w.heap.size + 1 + 1 = w2.heap.size := by omega
    have km2 : ¬ w2.heap.size = w.heap.size + 1 + 1 := by omega
    have kl3 : w1.heap.size < w2.heap.size := by omega
    have kn3 : ¬ w1.heap.size = w2.heap.size := by omega
    have km3 : ¬ w2.heap.size = w1.heap.size := by omega
    have HB := Lib.hid (show Below w.heap.size w w2 from by exact HB.out.trans ((show Below _ _ _ from ((Below.refl _ _).alloc (by omega) _)).trans (hb.mono (by first | omega | (simp <;> omega)))))
    have HR := Lib.hid ((show Room _ (w.heap.size + 1 + 1) 1 from (HR.out.alloc (by omega) _)).below hb (by first | omega | (simp <;> omega)))
    clear ho hb
    go_wp2_with fail
    refine (l3in_any _ _ _ _ _).mono ?_
    rintro e w3 ho
    rw [← HG.out] at ho
    obtain ⟨rfl, hb⟩ := ho.fn
    have kc0 := fun o => hb.cell (p := ⟨w.heap.size + 1 + 1, o, none⟩) (by show w.heap.size + 1 + 1 < _; first | omega | (simp <;> omega))
    have kf0 := fun o => hb.frozen (p := ⟨w.heap.size + 1 + 1, o, none⟩) (by show w.heap.size + 1 + 1 < _; first | omega | (simp <;> omega))
    have hz := hb.size
    (try simp at hz)
    have kl0 : w.heap.size + 1 + 1 < w3.heap.size := by omega
    have kn0 : ¬ w.heap.size + 1 + 1 = w3.heap.size := by omega
    have km0 : ¬ w3.heap.size = w.heap.size + 1 + 1 := by omega
    have HB := Lib.hid (show Below w.heap.size w w3 from by exact HB.out.trans ((show Below _ _ _ from ((Below.refl _ _).alloc (by omega) _)).trans (hb.mono (by first | omega | (simp <;> omega)))))
    have HR := Lib.hid ((show Room _ (w.heap.size + 1 + 1) 1 from (HR.out.alloc (by omega) _)).below hb (by first | omega | (simp <;> omega)))
    clear ho hb
    go_wp2
    refine bodyPost_ret (v := .tuple #[.agg #[.int .i64 ((jIn a b)).1.re, .int .i64 ((jIn a b)).1.im, .int .i64 ((jIn a b)).1.den], .bool ((jIn a b)).2]) (by simp [results, Try.results27, go_sem, *]) rfl (FrOut.self ?_)
    (repeat' first | (with_reducible exact HB.out) | with_reducible refine setCells_below _ _ _ ?_ (by first | omega | (simp <;> omega)) | with_reducible refine Below.setCell ?_ (by show _ ≤ _; first | omega | (simp <;> omega) | simp) _ | with_reducible refine Below.alloc ?_ (by first | omega | (simp <;> omega)) _ | with_reducible apply Below.drew)
set_option maxRecDepth 100000 in
set_option maxHeartbeats 8000000 in
theorem sjadd_any (a : J2) (b : J2) (w : World) :
    Calls Try.prog 17 #[.agg #[.int .i64 a.x.re, .int .i64 a.x.im, .int .i64 a.x.den, .int .i64 a.y.re, .int .i64 a.y.im, .int .i64 a.y.den], .agg #[.int .i64 b.x.re, .int .i64 b.x.im, .int .i64 b.x.den, .int .i64 b.y.re, .int .i64 b.y.im, .int .i64 b.y.den]] w (J2Out (jAdd a b) w) := by
  cases h1 : (fAdd a.x b.x).2
  · have HG : Hid ((jAdd a b) = (j2z, false)) := by show _ = _; simp [jAdd, h1, j2of]
    go_enter Try.func17, Try.ntmps17
    go_wp2_with fail
    refine (spadd_fr a.x b.x _).mono ?_
    rintro e w1 ho
    obtain ⟨rfl, hb⟩ := ho.fn
    have kc0 := fun o => hb.cell (p := ⟨w.heap.size, o, none⟩) (by show w.heap.size < _; first | omega | (simp <;> omega))
    have kc1 := fun o => hb.cell (p := ⟨w.heap.size + 1, o, none⟩) (by show w.heap.size + 1 < _; first | omega | (simp <;> omega))
    have kc2 := fun o => hb.cell (p := ⟨w.heap.size + 1 + 1, o, none⟩) (by show w.heap.size + 1 + 1 < _; first | omega | (simp <;> omega))
    have kf0 := fun o => hb.frozen (p := ⟨w.heap.size + 1 + 1, o, none⟩) (by show w.heap.size + 1 + 1 < _; first | omega | (simp <;> omega))
    have hz := hb.size
    (try simp at hz)
    have kl0 : w.heap.size < w1.heap.size := by omega
    have kn0 : ¬ w.heap.size = w1.heap.size := by omega
    have km0 : ¬ w1.heap.size = w.heap.size := by omega
    have kl1 : w.heap.size + 1 < w1.heap.size := by omega
    have kn1 : ¬ w.heap.size + 1 = w1.heap.size := by omega
    have km1 : ¬ w1.heap.size = w.heap.size + 1 := by omega
    have kl2 : w.heap.size + 1 + 1 < w1.heap.size := by omega
    have kn2 : ¬ w.heap.size + 1 + 1 = w1.heap.size := by omega
    have km2 : ¬ w1.heap.size = w.heap.size + 1 + 1 := by omega
    have HB := Lib.hid (show Below w.heap.size w w1 from by (repeat' first | exact Below.refl _ _ | apply bl_alloc | apply bl_drewN | apply bl_drew | refine bl_trans ?_ (by assumption) | refine bl_set ?_ (by first | omega | (simp <;> omega)) _))
    have HR := Lib.hid ((show Room _ (w.heap.size + 1 + 1) 2 from (Room.new' (by simp) rfl)).below hb (by first | omega | (simp <;> omega)))
    clear ho hb
    go_wp2_with fail
    refine (spadd_fr a.y b.y _).mono ?_
    rintro e w2 ho
    obtain ⟨rfl, hb⟩ := ho.fn
    have kc0 := fun o => hb.cell (p := ⟨w.heap.size, o, none⟩) (by show w.heap.size < _; first | omega | (simp <;> omega))
    have kc1 := fun o => hb.cell (p := ⟨w.heap.size + 1, o, none⟩) (by show w.heap.size + 1 < _; first | omega | (simp <;> omega))
    have kc2 := fun o => hb.cell (p := ⟨w.heap.size + 1 + 1, o, none⟩) (by show w.heap.size + 1 + 1 < _; first | omega | (simp <;> omega))
    have kc3 := fun o => hb.cell (p := ⟨w1.heap.size, o, none⟩) (by show w1.heap.size < _; first | omega | (simp <;> omega))
    have kf0 := fun o => hb.frozen (p := ⟨w.heap.size + 1 + 1, o, none⟩) (by show w.heap.size + 1 + 1 < _; first | omega | (simp <;> omega))
    have hz := hb.size
    (try simp at hz)
    have kl0 : w.heap.size < w2.heap.size := by omega
    have kn0 : ¬ w.heap.size = w2.heap.size := by omega
    have km0 : ¬ w2.heap.size = w.heap.size := by omega
    have kl1 : w.heap.size + 1 < w2.heap.size := by omega
    have kn1 : ¬ w.heap.size + 1 = w2.heap.size := by omega
    have km1 : ¬ w2.heap.size = w.heap.size + 1 := by omega
    have kl2 : w.heap.size + 1 + 1 < w2.heap.size := by omega
    have kn2 : ¬ w.heap.size + 1 + 1 = w2.heap.size := by omega
    have km2 : ¬ w2.heap.size = w.heap.size + 1 + 1 := by omega
    have kl3 : w1.heap.size < w2.heap.size := by omega
    have kn3 : ¬ w1.heap.size = w2.heap.size := by omega
    have km3 : ¬ w2.heap.size = w1.heap.size := by omega
    have HB := Lib.hid (show Below w.heap.size w w2 from by exact HB.out.trans ((show Below _ _ _ from ((Below.refl _ _).alloc (by omega) _)).trans (hb.mono (by first | omega | (simp <;> omega)))))
    have HR := Lib.hid ((show Room _ (w.heap.size + 1 + 1) 2 from (HR.out.alloc (by omega) _)).below hb (by first | omega | (simp <;> omega)))
    clear ho hb
    go_wp2
    refine bodyPost_ret (v := .tuple #[.agg #[.int .i64 0, .int .i64 0, .int .i64 0, .int .i64 0, .int .i64 0, .int .i64 0], .bool false]) ?_ rfl (J2Out.no HG.out ?_)
    · exact Eq.trans (results_cell_mid2 Try.results17 _ _ (w.heap.size + 1 + 1) [.int .i64 0, .int .i64 0, .int .i64 0, .int .i64 0, .int .i64 0, .int .i64 0] _ (by rfl) (by ((repeat' first | (with_reducible refine World.rangeAt_setCells_same _ (w.heap.size + 1 + 1) 0 [.int .i64 0, .int .i64 0, .int .i64 0, .int .i64 0, .int .i64 0, .int .i64 0] ?_) | (with_reducible refine World.rangeAt_alloc ?_ _) | (with_reducible refine (World.rangeAt_drew _ _ _ _).2 ?_)); first | exact HR.out.there | (have hh := fun W h => World.rangeAt_setCells_same W (w.heap.size + 1 + 1) 0 [.int .i64 0, .int .i64 0, .int .i64 0, .int .i64 0, .int .i64 0, .int .i64 0] h; simp only [World.setCells, Nat.zero_add, Nat.reduceAdd] at hh; exact hh _ HR.out.there))) Try.underlying26 rfl (by kernel_rfl)) rfl
    · (repeat' first | (with_reducible exact HB.out) | with_reducible refine setCells_below _ _ _ ?_ (by first | omega | (simp <;> omega)) | with_reducible refine Below.setCell ?_ (by show _ ≤ _; first | omega | (simp <;> omega) | simp) _ | with_reducible refine Below.alloc ?_ (by first | omega | (simp <;> omega)) _ | with_reducible apply Below.drew)
  cases h2 : (fAdd a.y b.y).2
  · have HG : Hid ((jAdd a b) = (j2z, false)) := by show _ = _; simp [jAdd, h1, h2, j2of]
    go_enter Try.func17, Try.ntmps17
    go_wp2_with fail
    refine (spadd_fr a.x b.x _).mono ?_
    rintro e w1 ho
    obtain ⟨rfl, hb⟩ := ho.fn
    have kc0 := fun o => hb.cell (p := ⟨w.heap.size, o, none⟩) (by show w.heap.size < _; first | omega | (simp <;> omega))
    have kc1 := fun o => hb.cell (p := ⟨w.heap.size + 1, o, none⟩) (by show w.heap.size + 1 < _; first | omega | (simp <;> omega))
    have kc2 := fun o => hb.cell (p := ⟨w.heap.size + 1 + 1, o, none⟩) (by show w.heap.size + 1 + 1 < _; first | omega | (simp <;> omega))
    have kf0 := fun o => hb.frozen (p := ⟨w.heap.size + 1 + 1, o, none⟩) (by show w.heap.size + 1 + 1 < _; first | omega | (simp <;> omega))
    have hz := hb.size
    (try simp at hz)
    have kl0 : w.heap.size < w1.heap.size := by omega
    have kn0 : ¬ w.heap.size = w1.heap.size := by omega
    have km0 : ¬ w1.heap.size = w.heap.size := by omega
    have kl1 : w.heap.size + 1 < w1.heap.size := by omega
    have kn1 : ¬ w.heap.size + 1 = w1.heap.size := by omega
    have km1 : ¬ w1.heap.size = w.heap.size + 1 := by omega
    have kl2 : w.heap.size + 1 + 1 < w1.heap.size := by omega
    have kn2 : ¬ w.heap.size + 1 + 1 = w1.heap.size := by omega
    have km2 : ¬ w1.heap.size = w.heap.size + 1 + 1 := by omega
    have HB := Lib.hid (show Below w.heap.size w w1 from by (repeat' first | exact Below.refl _ _ | apply bl_alloc | apply bl_drewN | apply bl_drew | refine bl_trans ?_ (by assumption) | refine bl_set ?_ (by first | omega | (simp <;> omega)) _))
    have HR := Lib.hid ((show Room _ (w.heap.size + 1 + 1) 2 from (Room.new' (by simp) rfl)).below hb (by first | omega | (simp <;> omega)))
    clear ho hb
    go_wp2_with fail
    refine (spadd_fr a.y b.y _).mono ?_
    rintro e w2 ho
    obtain ⟨rfl, hb⟩ := ho.fn
    have kc0 := fun o => hb.cell (p := ⟨w.heap.size, o, none⟩) (by show w.heap.size < _; first | omega | (simp <;> omega))
    have kc1 := fun o => hb.cell (p := ⟨w.heap.size + 1, o, none⟩) (by show w.heap.size + 1 < _; first | omega | (simp <;> omega))
    have kc2 := fun o => hb.cell (p := ⟨w.heap.size + 1 + 1, o, none⟩) (by show w.heap.size + 1 + 1 < _; first | omega | (simp <;> omega))
    have kc3 := fun o => hb.cell (p := ⟨w1.heap.size, o, none⟩) (by show w1.heap.size < _; first | omega | (simp <;> omega))
    have kf0 := fun o => hb.frozen (p := ⟨w.heap.size + 1 + 1, o, none⟩) (by show w.heap.size + 1 + 1 < _; first | omega | (simp <;> omega))
    have hz := hb.size
    (try simp at hz)
    have kl0 : w.heap.size < w2.heap.size := by omega
    have kn0 : ¬ w.heap.size = w2.heap.size := by omega
    have km0 : ¬ w2.heap.size = w.heap.size := by omega
    have kl1 : w.heap.size + 1 < w2.heap.size := by omega
    have kn1 : ¬ w.heap.size + 1 = w2.heap.size := by omega
    have km1 : ¬ w2.heap.size = w.heap.size + 1 := by omega
    have kl2 : w.heap.size + 1 + 1 < w2.heap.size := by omega
    have kn2 : ¬ w.heap.size + 1 + 1 = w2.heap.size := by omega
    have km2 : ¬ w2.heap.size = w.heap.size + 1 + 1 := by omega
    have kl3 : w1.heap.size < w2.heap.size := by omega
    have kn3 : ¬ w1.heap.size = w2.heap.size := by omega
    have km3 : ¬ w2.heap.size = w1.heap.size := by omega
    have HB := Lib.hid (show Below w.heap.size w w2 from by exact HB.out.trans ((show Below _ _ _ from ((Below.refl _ _).alloc (by omega) _)).trans (hb.mono (by first | omega | (simp <;> omega)))))
    have HR := Lib.hid ((show Room _ (w.heap.size + 1 + 1) 2 from (HR.out.alloc (by omega) _)).below hb (by first | omega | (simp <;> omega)))
    clear ho hb
    go_wp2
    refine bodyPost_ret (v := .tuple #[.agg #[.int .i64 0, .int .i64 0, .int .i64 0, .int .i64 0, .int .i64 0, .int .i64 0], .bool false]) ?_ rfl (J2Out.no HG.out ?_)
    · exact Eq.trans (results_cell_mid2 Try.results17 _ _ (w.heap.size + 1 + 1) [.int .i64 0, .int .i64 0, .int .i64 0, .int .i64 0, .int .i64 0, .int .i64 0] _ (by rfl) (by ((repeat' first | (with_reducible refine World.rangeAt_setCells_same _ (w.heap.size + 1 + 1) 0 [.int .i64 0, .int .i64 0, .int .i64 0, .int .i64 0, .int .i64 0, .int .i64 0] ?_) | (with_reducible refine World.rangeAt_alloc ?_ _) | (with_reducible refine (World.rangeAt_drew _ _ _ _).2 ?_)); first | exact HR.out.there | (have hh := fun W h => World.rangeAt_setCells_same W (w.heap.size + 1 + 1) 0 [.int .i64 0, .int .i64 0, .int .i64 0, .int .i64 0, .int .i64 0, .int .i64 0] h; simp only [World.setCells, Nat.zero_add, Nat.reduceAdd] at hh; exact hh _ HR.out.there))) Try.underlying26 rfl (by kernel_rfl)) rfl
    · (repeat' first | (with_reducible exact HB.out) | with_reducible refine setCells_below _ _ _ ?_ (by first | omega | (simp <;> omega)) | with_reducible refine Below.setCell ?_ (by show _ ≤ _; first | omega | (simp <;> omega) | simp) _ | with_reducible refine Below.alloc ?_ (by first | omega | (simp <;> omega)) _ | with_reducible apply Below.drew)
  · have HG : Hid ((jAdd a b) = (⟨(fAdd a.x b.x).1, (fAdd a.y b.y).1⟩, true)) := by show _ = _; simp [jAdd, h1, h2, j2of]
    go_enter Try.func17, Try.ntmps17
    go_wp2_with fail
    refine (spadd_fr a.x b.x _).mono ?_
    rintro e w1 ho
    obtain ⟨rfl, hb⟩ := ho.fn
    have kc0 := fun o => hb.cell (p := ⟨w.heap.size, o, none⟩) (by show w.heap.size < _; first | omega | (simp <;> omega))
    have kc1 := fun o => hb.cell (p := ⟨w.heap.size + 1, o, none⟩) (by show w.heap.size + 1 < _; first | omega | (simp <;> omega))
    have kc2 := fun o => hb.cell (p := ⟨w.heap.size + 1 + 1, o, none⟩) (by show w.heap.size + 1 + 1 < _; first | omega | (simp <;> omega))
    have kf0 := fun o => hb.frozen (p := ⟨w.heap.size + 1 + 1, o, none⟩) (by show w.heap.size + 1 + 1 < _; first | omega | (simp <;> omega))
    have hz := hb.size
    (try simp at hz)
    have kl0 : w.heap.size < w1.heap.size := by omega
    have kn0 : ¬ w.heap.size = w1.heap.size := by omega
    have km0 : ¬ w1.heap.size = w.heap.size := by omega
    have kl1 : w.heap.size + 1 < w1.heap.size := by omega
    have kn1 : ¬ w.heap.size + 1 = w1.heap.size := by omega
    have km1 : ¬ w1.heap.size = w.heap.size + 1 := by omega
    have kl2 : w.heap.size + 1 + 1 < w1.heap.size := by omega
    have kn2 : ¬ w.heap.size + 1 + 1 = w1.heap.size := by omega
    have km2 : ¬ w1.heap.size = w.heap.size + 1 + 1 := by omega
    have HB := Lib.hid (show Below w.heap.size w w1 from by (repeat' first | exact Below.refl _ _ | apply bl_alloc | apply bl_drewN | apply bl_drew | refine bl_trans ?_ (by assumption) | refine bl_set ?_ (by first | omega | (simp <;> omega)) _))
    have HR := Lib.hid ((show Room _ (w.heap.size + 1 + 1) 2 from (Room.new' (by simp) rfl)).below hb (by first | omega | (simp <;> omega)))
    clear ho hb
    go_wp2_with fail
    refine (spadd_fr a.y b.y _).mono ?_
    rintro e w2 ho
    obtain ⟨rfl, hb⟩ := ho.fn
    have kc0 := fun o => hb.cell (p := ⟨w.heap.size, o, none⟩) (by show w.heap.size < _; first | omega | (simp <;> omega))
    have kc1 := fun o => hb.cell (p := ⟨w.heap.size + 1, o, none⟩) (by show w.heap.size + 1 < _; first | omega | (simp <;> omega))
    have kc2 := fun o => hb.cell (p := ⟨w.heap.size + 1 + 1, o, none⟩) (by show w.heap.size + 1 + 1 < _; first | omega | (simp <;> omega))
    have kc3 := fun o => hb.cell (p := ⟨w1.heap.size, o, none⟩) (by show w1.heap.size < _; first | omega | (simp <;> omega))
    have kf0 := fun o => hb.frozen (p := ⟨w.heap.size + 1 + 1, o, none⟩) (by show w.heap.size + 1 + 1 < _; first | omega | (simp <;> omega))
    have hz := hb.size
    (try simp at hz)
    have kl0 : w.heap.size < w2.heap.size := by omega
    have kn0 : ¬ w.heap.size = w2.heap.size := by omega
    have km0 : ¬ w2.heap.size = w.heap.size := by omega
    have kl1 : w.heap.size + 1 < w2.heap.size := by omega
    have kn1 : ¬ w.heap.size + 1 = w2.heap.size := by omega
    have km1 : ¬ w2.heap.size = w.heap.size + 1 := by omega
    have kl2 : w.heap.size + 1 + 1 < w2.heap.size := by omega
    have kn2 : ¬ w.heap.size + 1 + 1 = w2.heap.size := by omega
    have km2 : ¬ w2.heap.size = w.heap.size + 1 + 1 := by omega
    have kl3 : w1.heap.size < w2.heap.size := by omega
    have kn3 : ¬ w1.heap.size = w2.heap.size := by omega
    have km3 : ¬ w2.heap.size = w1.heap.size := by omega
    have HB := Lib.hid (show Below w.heap.size w w2 from by exact HB.out.trans ((show Below _ _ _ from ((Below.refl _ _).alloc (by omega) _)).trans (hb.mono (by first | omega | (simp <;> omega)))))
    have HR := Lib.hid ((show Room _ (w.heap.size + 1 + 1) 2 from (HR.out.alloc (by omega) _)).below hb (by first | omega | (simp <;> omega)))
    clear ho hb
    go_wp2
    refine bodyPost_ret (v := .tuple #[.agg #[.int .i64 (fAdd a.x b.x).1.re, .int .i64 (fAdd a.x b.x).1.im, .int .i64 (fAdd a.x b.x).1.den, .int .i64 (fAdd a.y b.y).1.re, .int .i64 (fAdd a.y b.y).1.im, .int .i64 (fAdd a.y b.y).1.den], .bool true]) ?_ rfl (J2Out.yes (f := ⟨(fAdd a.x b.x).1, (fAdd a.y b.y).1⟩) (by rw [HG.out]) (by rw [HG.out]) ?_)
    · exact Eq.trans (results_cell_mid2 Try.results17 _ _ (w.heap.size + 1 + 1) [.int .i64 (fAdd a.x b.x).1.re, .int .i64 (fAdd a.x b.x).1.im, .int .i64 (fAdd a.x b.x).1.den, .int .i64 (fAdd a.y b.y).1.re, .int .i64 (fAdd a.y b.y).1.im, .int .i64 (fAdd a.y b.y).1.den] _ (by rfl) (by ((repeat' first | (with_reducible refine World.rangeAt_setCells_same _ (w.heap.size + 1 + 1) 0 [.int .i64 (fAdd a.x b.x).1.re, .int .i64 (fAdd a.x b.x).1.im, .int .i64 (fAdd a.x b.x).1.den, .int .i64 (fAdd a.y b.y).1.re, .int .i64 (fAdd a.y b.y).1.im, .int .i64 (fAdd a.y b.y).1.den] ?_) | (with_reducible refine World.rangeAt_alloc ?_ _) | (with_reducible refine (World.rangeAt_drew _ _ _ _).2 ?_)); first | exact HR.out.there | (have hh := fun W h => World.rangeAt_setCells_same W (w.heap.size + 1 + 1) 0 [.int .i64 (fAdd a.x b.x).1.re, .int .i64 (fAdd a.x b.x).1.im, .int .i64 (fAdd a.x b.x).1.den, .int .i64 (fAdd a.y b.y).1.re, .int .i64 (fAdd a.y b.y).1.im, .int .i64 (fAdd a.y b.y).1.den] h; simp only [World.setCells, Nat.zero_add, Nat.reduceAdd] at hh; exact hh _ HR.out.there))) Try.underlying26 rfl (by kernel_rfl)) rfl
    · (repeat' first | (with_reducible exact HB.out) | with_reducible refine setCells_below _ _ _ ?_ (by first | omega | (simp <;> omega)) | with_reducible refine Below.setCell ?_ (by show _ ≤ _; first | omega | (simp <;> omega) | simp) _ | with_reducible refine Below.alloc ?_ (by first | omega | (simp <;> omega)) _ | with_reducible apply Below.drew)
set_option maxRecDepth 100000 in
set_option maxHeartbeats 8000000 in
theorem sjmir_any (a : J2) (w : World) :
    Calls Try.prog 33 #[.agg #[.int .i64 a.x.re, .int .i64 a.x.im, .int .i64 a.x.den, .int .i64 a.y.re, .int .i64 a.y.im, .int .i64 a.y.den]] w (J2Out (jMir a) w) := by
  cases h1 : (fMirror a.x).2
  · have HG : Hid ((jMir a) = (j2z, false)) := by show _ = _; simp [jMir, h1, j2of]
    go_enter Try.func33, Try.ntmps33
    go_wp2_with fail
    refine (spmirror_fr a.x _).mono ?_
    rintro e w1 ho
    obtain ⟨rfl, hb⟩ := ho.fn
    have kc0 := fun o => hb.cell (p := ⟨w.heap.size, o, none⟩) (by show w.heap.size < _; first | omega | (simp <;> omega))
    have kc1 := fun o => hb.cell (p := ⟨w.heap.size + 1, o, none⟩) (by show w.heap.size + 1 < _; first | omega | (simp <;> omega))
    have kf0 := fun o => hb.frozen (p := ⟨w.heap.size + 1, o, none⟩) (by show w.heap.size + 1 < _; first | omega | (simp <;> omega))
    have hz := hb.size
    (try simp at hz)
    have kl0 : w.heap.size < w1.heap.size := by omega
    have kn0 : ¬ w.heap.size = w1.heap.size := by omega
    have km0 : ¬ w1.heap.size = w.heap.size := by omega
    have kl1 : w.heap.size + 1 < w1.heap.size := by omega
    have kn1 : ¬ w.heap.size + 1 = w1.heap.size := by omega
    have km1 : ¬ w1.heap.size = w.heap.size + 1 := by omega
    have HB := Lib.hid (show Below w.heap.size w w1 from by (repeat' first | exact Below.refl _ _ | apply bl_alloc | apply bl_drewN | apply bl_drew | refine bl_trans ?_ (by assumption) | refine bl_set ?_ (by first | omega | (simp <;> omega)) _))
    have HR := Lib.hid ((show Room _ (w.heap.size + 1) 2 from (Room.new' (by simp) rfl)).below hb (by first | omega | (simp <;> omega)))
    clear ho hb
    go_wp2_with fail
    refine (spmirror_fr a.y _).mono ?_
    rintro e w2 ho
    obtain ⟨rfl, hb⟩ := ho.fn
    have kc0 := fun o => hb.cell (p := ⟨w.heap.size, o, none⟩) (by show w.heap.size < _; first | omega | (simp <;> omega))
    have kc1 := fun o => hb.cell (p := ⟨w.heap.size + 1, o, none⟩) (by show w.heap.size + 1 < _; first | omega | (simp <;> omega))
    have kc2 := fun o => hb.cell (p := ⟨w1.heap.size, o, none⟩) (by show w1.heap.size < _; first | omega | (simp <;> omega))
    have kf0 := fun o => hb.frozen (p := ⟨w.heap.size + 1, o, none⟩) (by show w.heap.size + 1 < _; first | omega | (simp <;> omega))
    have hz := hb.size
    (try simp at hz)
    have kl0 : w.heap.size < w2.heap.size := by omega
    have kn0 : ¬ w.heap.size = w2.heap.size := by omega
    have km0 : ¬ w2.heap.size = w.heap.size := by omega
    have kl1 : w.heap.size + 1 < w2.heap.size := by omega
    have kn1 : ¬ w.heap.size + 1 = w2.heap.size := by omega
    have km1 : ¬ w2.heap.size = w.heap.size + 1 := by omega
    have kl2 : w1.heap.size < w2.heap.size := by omega
    have kn2 : ¬ w1.heap.size = w2.heap.size := by omega
    have km2 : ¬ w2.heap.size = w1.heap.size := by omega
    have HB := Lib.hid (show Below w.heap.size w w2 from by exact HB.out.trans ((show Below _ _ _ from ((Below.refl _ _).alloc (by omega) _)).trans (hb.mono (by first | omega | (simp <;> omega)))))
    have HR := Lib.hid ((show Room _ (w.heap.size + 1) 2 from (HR.out.alloc (by omega) _)).below hb (by first | omega | (simp <;> omega)))
    clear ho hb
    go_wp2
    refine bodyPost_ret (v := .tuple #[.agg #[.int .i64 0, .int .i64 0, .int .i64 0, .int .i64 0, .int .i64 0, .int .i64 0], .bool false]) ?_ rfl (J2Out.no HG.out ?_)
    · exact Eq.trans (results_cell_mid2 Try.results33 _ _ (w.heap.size + 1) [.int .i64 0, .int .i64 0, .int .i64 0, .int .i64 0, .int .i64 0, .int .i64 0] _ (by rfl) (by ((repeat' first | (with_reducible refine World.rangeAt_setCells_same _ (w.heap.size + 1) 0 [.int .i64 0, .int .i64 0, .int .i64 0, .int .i64 0, .int .i64 0, .int .i64 0] ?_) | (with_reducible refine World.rangeAt_alloc ?_ _) | (with_reducible refine (World.rangeAt_drew _ _ _ _).2 ?_)); first | exact HR.out.there | (have hh := fun W h => World.rangeAt_setCells_same W (w.heap.size + 1) 0 [.int .i64 0, .int .i64 0, .int .i64 0, .int .i64 0, .int .i64 0, .int .i64 0] h; simp only [World.setCells, Nat.zero_add, Nat.reduceAdd] at hh; exact hh _ HR.out.there))) Try.underlying26 rfl (by kernel_rfl)) rfl
    · (repeat' first | (with_reducible exact HB.out) | with_reducible refine setCells_below _ _ _ ?_ (by first | omega | (simp <;> omega)) | with_reducible refine Below.setCell ?_ (by show _ ≤ _; first | omega | (simp <;> omega) | simp) _ | with_reducible refine Below.alloc ?_ (by first | omega | (simp <;> omega)) _ | with_reducible apply Below.drew)
  cases h2 : (fMirror a.y).2
  · have HG : Hid ((jMir a) = (j2z, false)) := by show _ = _; simp [jMir, h1, h2, j2of]
    go_enter Try.func33, Try.ntmps33
    go_wp2_with fail
    refine (spmirror_fr a.x _).mono ?_
    rintro e w1 ho
    obtain ⟨rfl, hb⟩ := ho.fn
    have kc0 := fun o => hb.cell (p := ⟨w.heap.size, o, none⟩) (by show w.heap.size < _; first | omega | (simp <;> omega))
    have kc1 := fun o => hb.cell (p := ⟨w.heap.size + 1, o, none⟩) (by show w.heap.size + 1 < _; first | omega | (simp <;> omega))
    have kf0 := fun o => hb.frozen (p := ⟨w.heap.size + 1, o, none⟩) (by show w.heap.size + 1 < _; first | omega | (simp <;> omega))
    have hz := hb.size
    (try simp at hz)
    have kl0 : w.heap.size < w1.heap.size := by omega
    have kn0 : ¬ w.heap.size = w1.heap.size := by omega
    have km0 : ¬ w1.heap.size = w.heap.size := by omega
    have kl1 : w.heap.size + 1 < w1.heap.size := by omega
    have kn1 : ¬ w.heap.size + 1 = w1.heap.size := by omega
    have km1 : ¬ w1.heap.size = w.heap.size + 1 := by omega
    have HB := Lib.hid (show Below w.heap.size w w1 from by (repeat' first | exact Below.refl _ _ | apply bl_alloc | apply bl_drewN | apply bl_drew | refine bl_trans ?_ (by assumption) | refine bl_set ?_ (by first | omega | (simp <;> omega)) _))
    have HR := Lib.hid ((show Room _ (w.heap.size + 1) 2 from (Room.new' (by simp) rfl)).below hb (by first | omega | (simp <;> omega)))
    clear ho hb
    go_wp2_with fail
    refine (spmirror_fr a.y _).mono ?_
    rintro e w2 ho
    obtain ⟨rfl, hb⟩ := ho.fn
    have kc0 := fun o => hb.cell (p := ⟨w.heap.size, o, none⟩) (by show w.heap.size < _; first | omega | (simp <;> omega))
    have kc1 := fun o => hb.cell (p := ⟨w.heap.size + 1, o, none⟩) (by show w.heap.size + 1 < _; first | omega | (simp <;> omega))
    have kc2 := fun o => hb.cell (p := ⟨w1.heap.size, o, none⟩) (by show w1.heap.size < _; first | omega | (simp <;> omega))
    have kf0 := fun o => hb.frozen (p := ⟨w.heap.size + 1, o, none⟩) (by show w.heap.size + 1 < _; first | omega | (simp <;> omega))
    have hz := hb.size
    (try simp at hz)
    have kl0 : w.heap.size < w2.heap.size := by omega
    have kn0 : ¬ w.heap.size = w2.heap.size := by omega
    have km0 : ¬ w2.heap.size = w.heap.size := by omega
    have kl1 : w.heap.size + 1 < w2.heap.size := by omega
    have kn1 : ¬ w.heap.size + 1 = w2.heap.size := by omega
    have km1 : ¬ w2.heap.size = w.heap.size + 1 := by omega
    have kl2 : w1.heap.size < w2.heap.size := by omega
    have kn2 : ¬ w1.heap.size = w2.heap.size := by omega
    have km2 : ¬ w2.heap.size = w1.heap.size := by omega
    have HB := Lib.hid (show Below w.heap.size w w2 from by exact HB.out.trans ((show Below _ _ _ from ((Below.refl _ _).alloc (by omega) _)).trans (hb.mono (by first | omega | (simp <;> omega)))))
    have HR := Lib.hid ((show Room _ (w.heap.size + 1) 2 from (HR.out.alloc (by omega) _)).below hb (by first | omega | (simp <;> omega)))
    clear ho hb
    go_wp2
    refine bodyPost_ret (v := .tuple #[.agg #[.int .i64 0, .int .i64 0, .int .i64 0, .int .i64 0, .int .i64 0, .int .i64 0], .bool false]) ?_ rfl (J2Out.no HG.out ?_)
    · exact Eq.trans (results_cell_mid2 Try.results33 _ _ (w.heap.size + 1) [.int .i64 0, .int .i64 0, .int .i64 0, .int .i64 0, .int .i64 0, .int .i64 0] _ (by rfl) (by ((repeat' first | (with_reducible refine World.rangeAt_setCells_same _ (w.heap.size + 1) 0 [.int .i64 0, .int .i64 0, .int .i64 0, .int .i64 0, .int .i64 0, .int .i64 0] ?_) | (with_reducible refine World.rangeAt_alloc ?_ _) | (with_reducible refine (World.rangeAt_drew _ _ _ _).2 ?_)); first | exact HR.out.there | (have hh := fun W h => World.rangeAt_setCells_same W (w.heap.size + 1) 0 [.int .i64 0, .int .i64 0, .int .i64 0, .int .i64 0, .int .i64 0, .int .i64 0] h; simp only [World.setCells, Nat.zero_add, Nat.reduceAdd] at hh; exact hh _ HR.out.there))) Try.underlying26 rfl (by kernel_rfl)) rfl
    · (repeat' first | (with_reducible exact HB.out) | with_reducible refine setCells_below _ _ _ ?_ (by first | omega | (simp <;> omega)) | with_reducible refine Below.setCell ?_ (by show _ ≤ _; first | omega | (simp <;> omega) | simp) _ | with_reducible refine Below.alloc ?_ (by first | omega | (simp <;> omega)) _ | with_reducible apply Below.drew)
  · have HG : Hid ((jMir a) = (⟨(fMirror a.x).1, (fMirror a.y).1⟩, true)) := by show _ = _; simp [jMir, h1, h2, j2of]
    go_enter Try.func33, Try.ntmps33
    go_wp2_with fail
    refine (spmirror_fr a.x _).mono ?_
    rintro e w1 ho
    obtain ⟨rfl, hb⟩ := ho.fn
    have kc0 := fun o => hb.cell (p := ⟨w.heap.size, o, none⟩) (by show w.heap.size < _; first | omega | (simp <;> omega))
    have kc1 := fun o => hb.cell (p := ⟨w.heap.size + 1, o, none⟩) (by show w.heap.size + 1 < _; first | omega | (simp <;> omega))
    have kf0 := fun o => hb.frozen (p := ⟨w.heap.size + 1, o, none⟩) (by show w.heap.size + 1 < _; first | omega | (simp <;> omega))
    have hz := hb.size
    (try simp at hz)
    have kl0 : w.heap.size < w1.heap.size := by omega
    have kn0 : ¬ w.heap.size = w1.heap.size := by omega
    have km0 : ¬ w1.heap.size = w.heap.size := by omega
    have kl1 : w.heap.size + 1 < w1.heap.size := by omega
    have kn1 : ¬ w.heap.size + 1 = w1.heap.size := by omega
    have km1 : ¬ w1.heap.size = w.heap.size + 1 := by omega
    have HB := Lib.hid (show Below w.heap.size w w1 from by (repeat' first | exact Below.refl _ _ | apply bl_alloc | apply bl_drewN | apply bl_drew | refine bl_trans ?_ (by assumption) | refine bl_set ?_ (by first | omega | (simp <;> omega)) _))
    have HR := Lib.hid ((show Room _ (w.heap.size + 1) 2 from (Room.new' (by simp) rfl)).below hb (by first | omega | (simp <;> omega)))
    clear ho hb
    go_wp2_with fail
    refine (spmirror_fr a.y _).mono ?_
    rintro e w2 ho
    obtain ⟨rfl, hb⟩ := ho.fn
    have kc0 := fun o => hb.cell (p := ⟨w.heap.size, o, none⟩) (by show w.heap.size < _; first | omega | (simp <;> omega))
    have kc1 := fun o => hb.cell (p := ⟨w.heap.size + 1, o, none⟩) (by show w.heap.size + 1 < _; first | omega | (simp <;> omega))
    have kc2 := fun o => hb.cell (p := ⟨w1.heap.size, o, none⟩) (by show w1.heap.size < _; first | omega | (simp <;> omega))
    have kf0 := fun o => hb.frozen (p := ⟨w.heap.size + 1, o, none⟩) (by show w.heap.size + 1 < _; first | omega | (simp <;> omega))
    have hz := hb.size
    (try simp at hz)
    have kl0 : w.heap.size < w2.heap.size := by omega
    have kn0 : ¬ w.heap.size = w2.heap.size := by omega
    have km0 : ¬ w2.heap.size = w.heap.size := by omega
    have kl1 : w.heap.size + 1 < w2.heap.size := by omega
    have kn1 : ¬ w.heap.size + 1 = w2.heap.size := by omega
    have km1 : ¬ w2.heap.size = w.heap.size + 1 := by omega
    have kl2 : w1.heap.size < w2.heap.size := by omega
    have kn2 : ¬ w1.heap.size = w2.heap.size := by omega
    have km2 : ¬ w2.heap.size = w1.heap.size := by omega
    have HB := Lib.hid (show Below w.heap.size w w2 from by exact HB.out.trans ((show Below _ _ _ from ((Below.refl _ _).alloc (by omega) _)).trans (hb.mono (by first | omega | (simp <;> omega)))))
    have HR := Lib.hid ((show Room _ (w.heap.size + 1) 2 from (HR.out.alloc (by omega) _)).below hb (by first | omega | (simp <;> omega)))
    clear ho hb
    go_wp2
    refine bodyPost_ret (v := .tuple #[.agg #[.int .i64 (fMirror a.x).1.re, .int .i64 (fMirror a.x).1.im, .int .i64 (fMirror a.x).1.den, .int .i64 (fMirror a.y).1.re, .int .i64 (fMirror a.y).1.im, .int .i64 (fMirror a.y).1.den], .bool true]) ?_ rfl (J2Out.yes (f := ⟨(fMirror a.x).1, (fMirror a.y).1⟩) (by rw [HG.out]) (by rw [HG.out]) ?_)
    · exact Eq.trans (results_cell_mid2 Try.results33 _ _ (w.heap.size + 1) [.int .i64 (fMirror a.x).1.re, .int .i64 (fMirror a.x).1.im, .int .i64 (fMirror a.x).1.den, .int .i64 (fMirror a.y).1.re, .int .i64 (fMirror a.y).1.im, .int .i64 (fMirror a.y).1.den] _ (by rfl) (by ((repeat' first | (with_reducible refine World.rangeAt_setCells_same _ (w.heap.size + 1) 0 [.int .i64 (fMirror a.x).1.re, .int .i64 (fMirror a.x).1.im, .int .i64 (fMirror a.x).1.den, .int .i64 (fMirror a.y).1.re, .int .i64 (fMirror a.y).1.im, .int .i64 (fMirror a.y).1.den] ?_) | (with_reducible refine World.rangeAt_alloc ?_ _) | (with_reducible refine (World.rangeAt_drew _ _ _ _).2 ?_)); first | exact HR.out.there | (have hh := fun W h => World.rangeAt_setCells_same W (w.heap.size + 1) 0 [.int .i64 (fMirror a.x).1.re, .int .i64 (fMirror a.x).1.im, .int .i64 (fMirror a.x).1.den, .int .i64 (fMirror a.y).1.re, .int .i64 (fMirror a.y).1.im, .int .i64 (fMirror a.y).1.den] h; simp only [World.setCells, Nat.zero_add, Nat.reduceAdd] at hh; exact hh _ HR.out.there))) Try.underlying26 rfl (by kernel_rfl)) rfl
    · (repeat' first | (with_reducible exact HB.out) | with_reducible refine setCells_below _ _ _ ?_ (by first | omega | (simp <;> omega)) | with_reducible refine Below.setCell ?_ (by show _ ≤ _; first | omega | (simp <;> omega) | simp) _ | with_reducible refine Below.alloc ?_ (by first | omega | (simp <;> omega)) _ | with_reducible apply Below.drew)
end Go.Proofs.Ytlmpbijhidnekaa
