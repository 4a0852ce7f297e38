/- Contracts: a matrix upon a vector, both sides. -/
import Derived.Test.YtmfiiambannecaaMBN
import Derived.Test.YtmfiiambannecaaN
namespace Go.Proofs.Ytmfiiambannecaa
open Go.RowKit Pol

def mAp (m : M4) (x : J2) : J2 × Bool := if all4 vld m = true then if jv x = true then if ((fIn (m.get 0) x.x (m.get 1) x.y).2 && (fIn (m.get 2) x.x (m.get 3) x.y).2) = true then (⟨(fIn (m.get 0) x.x (m.get 1) x.y).1, (fIn (m.get 2) x.x (m.get 3) x.y).1⟩, true) else (j2z, false) else (j2z, false) else (j2z, false)
theorem mApI_eq (m : M4) (x : J2) : mApI m x = mAp m x := by
  have e : mApI m x = gt j2z (eIn (eIn (false || !(all4 vld m && jv x)) (m.get 0) x.x (m.get 1) x.y) (m.get 2) x.x (m.get 3) x.y) ⟨(fAdd (fTimes (m.get 0) x.x).1 (fTimes (m.get 1) x.y).1).1, (fAdd (fTimes (m.get 2) x.x).1 (fTimes (m.get 3) x.y).1).1⟩ := rfl
  rw [e, eIn_eq, eIn_eq]
  unfold gt mAp
  cases h1 : all4 vld m
  · simp
  cases h2 : jv x
  · simp
  cases h3 : (fIn (m.get 0) x.x (m.get 1) x.y).2
  · simp
  cases h4 : (fIn (m.get 2) x.x (m.get 3) x.y).2
  · simp
  simp [fIn_val h3, fIn_val h4]
theorem imap_m (m : M4) (x : J2) (w : World) : Calls Try.prog 28 #[.agg #[.int .i64 m.a.re, .int .i64 m.a.im, .int .i64 m.a.den, .int .i64 m.b.re, .int .i64 m.b.im, .int .i64 m.b.den, .int .i64 m.c.re, .int .i64 m.c.im, .int .i64 m.c.den, .int .i64 m.d.re, .int .i64 m.d.im, .int .i64 m.d.den], .agg #[.int .i64 x.x.re, .int .i64 x.x.im, .int .i64 x.x.den, .int .i64 x.y.re, .int .i64 x.y.im, .int .i64 x.y.den]] w (J2Out (mAp m x) w) := mApI_eq m x ▸ imap m x w
set_option maxRecDepth 100000 in
set_option maxHeartbeats 8000000 in
theorem smap_any (m : M4) (x : J2) (w : World) :
    Calls Try.prog 26 #[.agg #[.int .i64 m.a.re, .int .i64 m.a.im, .int .i64 m.a.den, .int .i64 m.b.re, .int .i64 m.b.im, .int .i64 m.b.den, .int .i64 m.c.re, .int .i64 m.c.im, .int .i64 m.c.den, .int .i64 m.d.re, .int .i64 m.d.im, .int .i64 m.d.den], .agg #[.int .i64 x.x.re, .int .i64 x.x.im, .int .i64 x.x.den, .int .i64 x.y.re, .int .i64 x.y.im, .int .i64 x.y.den]] w (J2Out (mAp m x) w) := by
  cases h1 : all4 vld m
  · have HG : Hid ((mAp m x) = (j2z, false)) := by show _ = _; simp [mAp, h1]
    go_enter Try.func26, Try.ntmps26
    go_wp2_with fail
    refine (smatvalid_any m _).mono ?_
    rintro e w1 ho
    obtain ⟨rfl, hb⟩ := (id ho)
    have kc0 := fun o => hb.cell (p := ⟨w.heap.size, o, none⟩) (by show w.heap.size < _; first | omega | (simp <;> omega))
    have kc1 := fun o => hb.cell (p := ⟨w.heap.size + 1, o, none⟩) (by show w.heap.size + 1 < _; first | omega | (simp <;> omega))
    have kc2 := fun o => hb.cell (p := ⟨w.heap.size + 1 + 1, o, none⟩) (by show w.heap.size + 1 + 1 < _; first | omega | (simp <;> omega))
    have kf0 := fun o => hb.frozen (p := ⟨w.heap.size + 1 + 1, o, none⟩) (by show w.heap.size + 1 + 1 < _; first | omega | (simp <;> omega))
    have hz := hb.size
    (try simp at hz)
    have kl0 : w.heap.size < w1.heap.size := by omega
    have kn0 : ¬ w.heap.size = w1.heap.size := by omega
    have km0 : ¬ w1.heap.size = w.heap.size := by omega
    have kl1 : w.heap.size + 1 < w1.heap.size := by omega
    have kn1 : ¬ w.heap.size + 1 = w1.heap.size := by omega
    have km1 : ¬ w1.heap.size = w.heap.size + 1 := by omega
    have kl2 : w.heap.size + 1 + 1 < w1.heap.size := by omega
    have kn2 : ¬ w.heap.size + 1 + 1 = w1.heap.size := by omega
    have km2 : ¬ w1.heap.size = w.heap.size + 1 + 1 := by omega
    have HB := Lib.hid (show Below w.heap.size w w1 from by (repeat' first | exact Below.refl _ _ | apply bl_alloc | apply bl_drewN | apply bl_drew | refine bl_trans ?_ (by assumption) | refine bl_set ?_ (by first | omega | (simp <;> omega)) _))
    have HR := Lib.hid ((show Room _ (w.heap.size + 1 + 1) 2 from (Room.new' (by simp) rfl)).below hb (by first | omega | (simp <;> omega)))
    clear ho hb
    go_wp2
    refine bodyPost_ret (v := .tuple #[.agg #[.int .i64 0, .int .i64 0, .int .i64 0, .int .i64 0, .int .i64 0, .int .i64 0], .bool false]) ?_ rfl (J2Out.no HG.out ?_)
    · exact Eq.trans (results_cell_mid2 Try.results26 _ _ (w.heap.size + 1 + 1) [.int .i64 0, .int .i64 0, .int .i64 0, .int .i64 0, .int .i64 0, .int .i64 0] _ (by rfl) (by ((repeat' first | (with_reducible refine World.rangeAt_setCells_same _ (w.heap.size + 1 + 1) 0 [.int .i64 0, .int .i64 0, .int .i64 0, .int .i64 0, .int .i64 0, .int .i64 0] ?_) | (with_reducible refine World.rangeAt_alloc ?_ _) | (with_reducible refine (World.rangeAt_drew _ _ _ _).2 ?_)); first | exact HR.out.there | (have hh := fun W h => World.rangeAt_setCells_same W (w.heap.size + 1 + 1) 0 [.int .i64 0, .int .i64 0, .int .i64 0, .int .i64 0, .int .i64 0, .int .i64 0] h; simp only [World.setCells, Nat.zero_add, Nat.reduceAdd] at hh; exact hh _ HR.out.there))) Try.underlying55 rfl (by kernel_rfl)) rfl
    · (repeat' first | (with_reducible exact HB.out) | with_reducible refine setCells_below _ _ _ ?_ (by first | omega | (simp <;> omega)) | with_reducible refine Below.setCell ?_ (by show _ ≤ _; first | omega | (simp <;> omega) | simp) _ | with_reducible refine Below.alloc ?_ (by first | omega | (simp <;> omega)) _ | with_reducible apply Below.drew)
  cases h2 : jv x
  · have HG : Hid ((mAp m x) = (j2z, false)) := by show _ = _; simp [mAp, h1, h2]
    go_enter Try.func26, Try.ntmps26
    go_wp2_with fail
    refine (smatvalid_any m _).mono ?_
    rintro e w1 ho
    obtain ⟨rfl, hb⟩ := (id ho)
    have kc0 := fun o => hb.cell (p := ⟨w.heap.size, o, none⟩) (by show w.heap.size < _; first | omega | (simp <;> omega))
    have kc1 := fun o => hb.cell (p := ⟨w.heap.size + 1, o, none⟩) (by show w.heap.size + 1 < _; first | omega | (simp <;> omega))
    have kc2 := fun o => hb.cell (p := ⟨w.heap.size + 1 + 1, o, none⟩) (by show w.heap.size + 1 + 1 < _; first | omega | (simp <;> omega))
    have kf0 := fun o => hb.frozen (p := ⟨w.heap.size + 1 + 1, o, none⟩) (by show w.heap.size + 1 + 1 < _; first | omega | (simp <;> omega))
    have hz := hb.size
    (try simp at hz)
    have kl0 : w.heap.size < w1.heap.size := by omega
    have kn0 : ¬ w.heap.size = w1.heap.size := by omega
    have km0 : ¬ w1.heap.size = w.heap.size := by omega
    have kl1 : w.heap.size + 1 < w1.heap.size := by omega
    have kn1 : ¬ w.heap.size + 1 = w1.heap.size := by omega
    have km1 : ¬ w1.heap.size = w.heap.size + 1 := by omega
    have kl2 : w.heap.size + 1 + 1 < w1.heap.size := by omega
    have kn2 : ¬ w.heap.size + 1 + 1 = w1.heap.size := by omega
    have km2 : ¬ w1.heap.size = w.heap.size + 1 + 1 := by omega
    have HB := Lib.hid (show Below w.heap.size w w1 from by (repeat' first | exact Below.refl _ _ | apply bl_alloc | apply bl_drewN | apply bl_drew | refine bl_trans ?_ (by assumption) | refine bl_set ?_ (by first | omega | (simp <;> omega)) _))
    have HR := Lib.hid ((show Room _ (w.heap.size + 1 + 1) 2 from (Room.new' (by simp) rfl)).below hb (by first | omega | (simp <;> omega)))
    clear ho hb
    go_wp2_with fail
    refine (sjv_any x _).mono ?_
    rintro e w2 ho
    obtain ⟨rfl, hb⟩ := (id ho)
    have kc0 := fun o => hb.cell (p := ⟨w.heap.size, o, none⟩) (by show w.heap.size < _; first | omega | (simp <;> omega))
    have kc1 := fun o => hb.cell (p := ⟨w.heap.size + 1, o, none⟩) (by show w.heap.size + 1 < _; first | omega | (simp <;> omega))
    have kc2 := fun o => hb.cell (p := ⟨w.heap.size + 1 + 1, o, none⟩) (by show w.heap.size + 1 + 1 < _; first | omega | (simp <;> omega))
    have kf0 := fun o => hb.frozen (p := ⟨w.heap.size + 1 + 1, o, none⟩) (by show w.heap.size + 1 + 1 < _; first | omega | (simp <;> omega))
    have hz := hb.size
    (try simp at hz)
    have kl0 : w.heap.size < w2.heap.size := by omega
    have kn0 : ¬ w.heap.size = w2.heap.size := by omega
    have km0 : ¬ w2.heap.size = w.heap.size := by omega
    have kl1 : w.heap.size + 1 < w2.heap.size := by omega
    have kn1 : ¬ w.heap.size + 1 = w2.heap.size := by omega
    have km1 : ¬ w2.heap.size = w.heap.size + 1 := by omega
    have kl2 : w.heap.size + 1 + 1 < w2.heap.size := by omega
    have kn2 : ¬ w.heap.size + 1 + 1 = w2.heap.size := by omega
    have km2 : ¬ w2.heap.size = w.heap.size + 1 + 1 := by omega
    have HB := Lib.hid (show Below w.heap.size w w2 from by exact HB.out.trans ((show Below _ _ _ from (Below.refl _ _)).trans (hb.mono (by first | omega | (simp <;> omega)))))
    have HR := Lib.hid ((show Room _ (w.heap.size + 1 + 1) 2 from HR.out).below hb (by first | omega | (simp <;> omega)))
    clear ho hb
    go_wp2
    refine bodyPost_ret (v := .tuple #[.agg #[.int .i64 0, .int .i64 0, .int .i64 0, .int .i64 0, .int .i64 0, .int .i64 0], .bool false]) ?_ rfl (J2Out.no HG.out ?_)
    · exact Eq.trans (results_cell_mid2 Try.results26 _ _ (w.heap.size + 1 + 1) [.int .i64 0, .int .i64 0, .int .i64 0, .int .i64 0, .int .i64 0, .int .i64 0] _ (by rfl) (by ((repeat' first | (with_reducible refine World.rangeAt_setCells_same _ (w.heap.size + 1 + 1) 0 [.int .i64 0, .int .i64 0, .int .i64 0, .int .i64 0, .int .i64 0, .int .i64 0] ?_) | (with_reducible refine World.rangeAt_alloc ?_ _) | (with_reducible refine (World.rangeAt_drew _ _ _ _).2 ?_)); first | exact HR.out.there | (have hh := fun W h => World.rangeAt_setCells_same W (w.heap.size + 1 + 1) 0 [.int .i64 0, .int .i64 0, .int .i64 0, .int .i64 0, .int .i64 0, .int .i64 0] h; simp only [World.setCells, Nat.zero_add, Nat.reduceAdd] at hh; exact hh _ HR.out.there))) Try.underlying55 rfl (by kernel_rfl)) rfl
    · (repeat' first | (with_reducible exact HB.out) | with_reducible refine setCells_below _ _ _ ?_ (by first | omega | (simp <;> omega)) | with_reducible refine Below.setCell ?_ (by show _ ≤ _; first | omega | (simp <;> omega) | simp) _ | with_reducible refine Below.alloc ?_ (by first | omega | (simp <;> omega)) _ | with_reducible apply Below.drew)
  cases h3 : (fIn (m.get 0) x.x (m.get 1) x.y).2
  · have HG : Hid ((mAp m x) = (j2z, false)) := by show _ = _; simp [mAp, h1, h2, h3]
    go_enter Try.func26, Try.ntmps26
    go_wp2_with fail
    refine (smatvalid_any m _).mono ?_
    rintro e w1 ho
    obtain ⟨rfl, hb⟩ := (id ho)
    have kc0 := fun o => hb.cell (p := ⟨w.heap.size, o, none⟩) (by show w.heap.size < _; first | omega | (simp <;> omega))
    have kc1 := fun o => hb.cell (p := ⟨w.heap.size + 1, o, none⟩) (by show w.heap.size + 1 < _; first | omega | (simp <;> omega))
    have kc2 := fun o => hb.cell (p := ⟨w.heap.size + 1 + 1, o, none⟩) (by show w.heap.size + 1 + 1 < _; first | omega | (simp <;> omega))
    have kf0 := fun o => hb.frozen (p := ⟨w.heap.size + 1 + 1, o, none⟩) (by show w.heap.size + 1 + 1 < _; first | omega | (simp <;> omega))
    have hz := hb.size
    (try simp at hz)
    have kl0 : w.heap.size < w1.heap.size := by omega
    have kn0 : ¬ w.heap.size = w1.heap.size := by omega
    have km0 : ¬ w1.heap.size = w.heap.size := by omega
    have kl1 : w.heap.size + 1 < w1.heap.size := by omega
    have kn1 : ¬ w.heap.size + 1 = w1.heap.size := by omega
    have km1 : ¬ w1.heap.size = w.heap.size + 1 := by omega
    have kl2 : w.heap.size + 1 + 1 < w1.heap.size := by omega
    have kn2 : ¬ w.heap.size + 1 + 1 = w1.heap.size := by omega
    have km2 : ¬ w1.heap.size = w.heap.size + 1 + 1 := by omega
    have HB := Lib.hid (show Below w.heap.size w w1 from by (repeat' first | exact Below.refl _ _ | apply bl_alloc | apply bl_drewN | apply bl_drew | refine bl_trans ?_ (by assumption) | refine bl_set ?_ (by first | omega | (simp <;> omega)) _))
    have HR := Lib.hid ((show Room _ (w.heap.size + 1 + 1) 2 from (Room.new' (by simp) rfl)).below hb (by first | omega | (simp <;> omega)))
    clear ho hb
    go_wp2_with fail
    refine (sjv_any x _).mono ?_
    rintro e w2 ho
    obtain ⟨rfl, hb⟩ := (id ho)
    have kc0 := fun o => hb.cell (p := ⟨w.heap.size, o, none⟩) (by show w.heap.size < _; first | omega | (simp <;> omega))
    have kc1 := fun o => hb.cell (p := ⟨w.heap.size + 1, o, none⟩) (by show w.heap.size + 1 < _; first | omega | (simp <;> omega))
    have kc2 := fun o => hb.cell (p := ⟨w.heap.size + 1 + 1, o, none⟩) (by show w.heap.size + 1 + 1 < _; first | omega | (simp <;> omega))
    have kf0 := fun o => hb.frozen (p := ⟨w.heap.size + 1 + 1, o, none⟩) (by show w.heap.size + 1 + 1 < _; first | omega | (simp <;> omega))
    have hz := hb.size
    (try simp at hz)
    have kl0 : w.heap.size < w2.heap.size := by omega
    have kn0 : ¬ w.heap.size = w2.heap.size := by omega
    have km0 : ¬ w2.heap.size = w.heap.size := by omega
    have kl1 : w.heap.size + 1 < w2.heap.size := by omega
    have kn1 : ¬ w.heap.size + 1 = w2.heap.size := by omega
    have km1 : ¬ w2.heap.size = w.heap.size + 1 := by omega
    have kl2 : w.heap.size + 1 + 1 < w2.heap.size := by omega
    have kn2 : ¬ w.heap.size + 1 + 1 = w2.heap.size := by omega
    have km2 : ¬ w2.heap.size = w.heap.size + 1 + 1 := by omega
    have HB := Lib.hid (show Below w.heap.size w w2 from by exact HB.out.trans ((show Below _ _ _ from (Below.refl _ _)).trans (hb.mono (by first | omega | (simp <;> omega)))))
    have HR := Lib.hid ((show Room _ (w.heap.size + 1 + 1) 2 from HR.out).below hb (by first | omega | (simp <;> omega)))
    clear ho hb
    go_wp2_with fail
    refine (l3in_any (m.get 0) x.x (m.get 1) x.y _).mono ?_
    rintro e w3 ho
    obtain ⟨rfl, hb⟩ := ho.fn
    have kc0 := fun o => hb.cell (p := ⟨w.heap.size, o, none⟩) (by show w.heap.size < _; first | omega | (simp <;> omega))
    have kc1 := fun o => hb.cell (p := ⟨w.heap.size + 1, o, none⟩) (by show w.heap.size + 1 < _; first | omega | (simp <;> omega))
    have kc2 := fun o => hb.cell (p := ⟨w.heap.size + 1 + 1, o, none⟩) (by show w.heap.size + 1 + 1 < _; first | omega | (simp <;> omega))
    have kf0 := fun o => hb.frozen (p := ⟨w.heap.size + 1 + 1, o, none⟩) (by show w.heap.size + 1 + 1 < _; first | omega | (simp <;> omega))
    have hz := hb.size
    (try simp at hz)
    have kl0 : w.heap.size < w3.heap.size := by omega
    have kn0 : ¬ w.heap.size = w3.heap.size := by omega
    have km0 : ¬ w3.heap.size = w.heap.size := by omega
    have kl1 : w.heap.size + 1 < w3.heap.size := by omega
    have kn1 : ¬ w.heap.size + 1 = w3.heap.size := by omega
    have km1 : ¬ w3.heap.size = w.heap.size + 1 := by omega
    have kl2 : w.heap.size + 1 + 1 < w3.heap.size := by omega
    have kn2 : ¬ w.heap.size + 1 + 1 = w3.heap.size := by omega
    have km2 : ¬ w3.heap.size = w.heap.size + 1 + 1 := by omega
    have HB := Lib.hid (show Below w.heap.size w w3 from by exact HB.out.trans ((show Below _ _ _ from (Below.refl _ _)).trans (hb.mono (by first | omega | (simp <;> omega)))))
    have HR := Lib.hid ((show Room _ (w.heap.size + 1 + 1) 2 from HR.out).below hb (by first | omega | (simp <;> omega)))
    clear ho hb
    go_wp2_with fail
    refine (l3in_any (m.get 2) x.x (m.get 3) x.y _).mono ?_
    rintro e w4 ho
    obtain ⟨rfl, hb⟩ := ho.fn
    have kc0 := fun o => hb.cell (p := ⟨w.heap.size, o, none⟩) (by show w.heap.size < _; first | omega | (simp <;> omega))
    have kc1 := fun o => hb.cell (p := ⟨w.heap.size + 1, o, none⟩) (by show w.heap.size + 1 < _; first | omega | (simp <;> omega))
    have kc2 := fun o => hb.cell (p := ⟨w.heap.size + 1 + 1, o, none⟩) (by show w.heap.size + 1 + 1 < _; first | omega | (simp <;> omega))
    have kc3 := fun o => hb.cell (p := ⟨w3.heap.size, o, none⟩) (by show w3.heap.size < _; first | omega | (simp <;> omega))
    have kf0 := fun o => hb.frozen (p := ⟨w.heap.size + 1 + 1, o, none⟩) (by show w.heap.size + 1 + 1 < _; first | omega | (simp <;> omega))
    have hz := hb.size
    (try simp at hz)
    have kl0 : w.heap.size < w4.heap.size := by omega
    have kn0 : ¬ w.heap.size = w4.heap.size := by omega
    have km0 : ¬ w4.heap.size = w.heap.size := by omega
    have kl1 : w.heap.size + 1 < w4.heap.size := by omega
    have kn1 : ¬ w.heap.size + 1 = w4.heap.size := by omega
    have km1 : ¬ w4.heap.size = w.heap.size + 1 := by omega
    have kl2 : w.heap.size + 1 + 1 < w4.heap.size := by omega
    have kn2 : ¬ w.heap.size + 1 + 1 = w4.heap.size := by omega
    have km2 : ¬ w4.heap.size = w.heap.size + 1 + 1 := by omega
    have kl3 : w3.heap.size < w4.heap.size := by omega
    have kn3 : ¬ w3.heap.size = w4.heap.size := by omega
    have km3 : ¬ w4.heap.size = w3.heap.size := by omega
    have HB := Lib.hid (show Below w.heap.size w w4 from by exact HB.out.trans ((show Below _ _ _ from ((Below.refl _ _).alloc (by omega) _)).trans (hb.mono (by first | omega | (simp <;> omega)))))
    have HR := Lib.hid ((show Room _ (w.heap.size + 1 + 1) 2 from (HR.out.alloc (by omega) _)).below hb (by first | omega | (simp <;> omega)))
    clear ho hb
    go_wp2
    refine bodyPost_ret (v := .tuple #[.agg #[.int .i64 0, .int .i64 0, .int .i64 0, .int .i64 0, .int .i64 0, .int .i64 0], .bool false]) ?_ rfl (J2Out.no HG.out ?_)
    · exact Eq.trans (results_cell_mid2 Try.results26 _ _ (w.heap.size + 1 + 1) [.int .i64 0, .int .i64 0, .int .i64 0, .int .i64 0, .int .i64 0, .int .i64 0] _ (by rfl) (by ((repeat' first | (with_reducible refine World.rangeAt_setCells_same _ (w.heap.size + 1 + 1) 0 [.int .i64 0, .int .i64 0, .int .i64 0, .int .i64 0, .int .i64 0, .int .i64 0] ?_) | (with_reducible refine World.rangeAt_alloc ?_ _) | (with_reducible refine (World.rangeAt_drew _ _ _ _).2 ?_)); first | exact HR.out.there | (have hh := fun W h => World.rangeAt_setCells_same W (w.heap.size + 1 + 1) 0 [.int .i64 0, .int .i64 0, .int .i64 0, .int .i64 0, .int .i64 0, .int .i64 0] h; simp only [World.setCells, Nat.zero_add, Nat.reduceAdd] at hh; exact hh _ HR.out.there))) Try.underlying55 rfl (by kernel_rfl)) rfl
    · (repeat' first | (with_reducible exact HB.out) | with_reducible refine setCells_below _ _ _ ?_ (by first | omega | (simp <;> omega)) | with_reducible refine Below.setCell ?_ (by show _ ≤ _; first | omega | (simp <;> omega) | simp) _ | with_reducible refine Below.alloc ?_ (by first | omega | (simp <;> omega)) _ | with_reducible apply Below.drew)
  cases h4 : (fIn (m.get 2) x.x (m.get 3) x.y).2
  · have HG : Hid ((mAp m x) = (j2z, false)) := by show _ = _; simp [mAp, h1, h2, h3, h4]
    go_enter Try.func26, Try.ntmps26
    go_wp2_with fail
    refine (smatvalid_any m _).mono ?_
    rintro e w1 ho
    obtain ⟨rfl, hb⟩ := (id ho)
    have kc0 := fun o => hb.cell (p := ⟨w.heap.size, o, none⟩) (by show w.heap.size < _; first | omega | (simp <;> omega))
    have kc1 := fun o => hb.cell (p := ⟨w.heap.size + 1, o, none⟩) (by show w.heap.size + 1 < _; first | omega | (simp <;> omega))
    have kc2 := fun o => hb.cell (p := ⟨w.heap.size + 1 + 1, o, none⟩) (by show w.heap.size + 1 + 1 < _; first | omega | (simp <;> omega))
    have kf0 := fun o => hb.frozen (p := ⟨w.heap.size + 1 + 1, o, none⟩) (by show w.heap.size + 1 + 1 < _; first | omega | (simp <;> omega))
    have hz := hb.size
    (try simp at hz)
    have kl0 : w.heap.size < w1.heap.size := by omega
    have kn0 : ¬ w.heap.size = w1.heap.size := by omega
    have km0 : ¬ w1.heap.size = w.heap.size := by omega
    have kl1 : w.heap.size + 1 < w1.heap.size := by omega
    have kn1 : ¬ w.heap.size + 1 = w1.heap.size := by omega
    have km1 : ¬ w1.heap.size = w.heap.size + 1 := by omega
    have kl2 : w.heap.size + 1 + 1 < w1.heap.size := by omega
    have kn2 : ¬ w.heap.size + 1 + 1 = w1.heap.size := by omega
    have km2 : ¬ w1.heap.size = w.heap.size + 1 + 1 := by omega
    have HB := Lib.hid (show Below w.heap.size w w1 from by (repeat' first | exact Below.refl _ _ | apply bl_alloc | apply bl_drewN | apply bl_drew | refine bl_trans ?_ (by assumption) | refine bl_set ?_ (by first | omega | (simp <;> omega)) _))
    have HR := Lib.hid ((show Room _ (w.heap.size + 1 + 1) 2 from (Room.new' (by simp) rfl)).below hb (by first | omega | (simp <;> omega)))
    clear ho hb
    go_wp2_with fail
    refine (sjv_any x _).mono ?_
    rintro e w2 ho
    obtain ⟨rfl, hb⟩ := (id ho)
    have kc0 := fun o => hb.cell (p := ⟨w.heap.size, o, none⟩) (by show w.heap.size < _; first | omega | (simp <;> omega))
    have kc1 := fun o => hb.cell (p := ⟨w.heap.size + 1, o, none⟩) (by show w.heap.size + 1 < _; first | omega | (simp <;> omega))
    have kc2 := fun o => hb.cell (p := ⟨w.heap.size + 1 + 1, o, none⟩) (by show w.heap.size + 1 + 1 < _; first | omega | (simp <;> omega))
    have kf0 := fun o => hb.frozen (p := ⟨w.heap.size + 1 + 1, o, none⟩) (by show w.heap.size + 1 + 1 < _; first | omega | (simp <;> omega))
    have hz := hb.size
    (try simp at hz)
    have kl0 : w.heap.size < w2.heap.size := by omega
    have kn0 : ¬ w.heap.size = w2.heap.size := by omega
    have km0 : ¬ w2.heap.size = w.heap.size := by omega
    have kl1 : w.heap.size + 1 < w2.heap.size := by omega
    have kn1 : ¬ w.heap.size + 1 = w2.heap.size := by omega
    have km1 : ¬ w2.heap.size = w.heap.size + 1 := by omega
    have kl2 : w.heap.size + 1 + 1 < w2.heap.size := by omega
    have kn2 : ¬ w.heap.size + 1 + 1 = w2.heap.size := by omega
    have km2 : ¬ w2.heap.size = w.heap.size + 1 + 1 := by omega
    have HB := Lib.hid (show Below w.heap.size w w2 from by exact HB.out.trans ((show Below _ _ _ from (Below.refl _ _)).trans (hb.mono (by first | omega | (simp <;> omega)))))
    have HR := Lib.hid ((show Room _ (w.heap.size + 1 + 1) 2 from HR.out).below hb (by first | omega | (simp <;> omega)))
    clear ho hb
    go_wp2_with fail
    refine (l3in_any (m.get 0) x.x (m.get 1) x.y _).mono ?_
    rintro e w3 ho
    obtain ⟨rfl, hb⟩ := ho.fn
    have kc0 := fun o => hb.cell (p := ⟨w.heap.size, o, none⟩) (by show w.heap.size < _; first | omega | (simp <;> omega))
    have kc1 := fun o => hb.cell (p := ⟨w.heap.size + 1, o, none⟩) (by show w.heap.size + 1 < _; first | omega | (simp <;> omega))
    have kc2 := fun o => hb.cell (p := ⟨w.heap.size + 1 + 1, o, none⟩) (by show w.heap.size + 1 + 1 < _; first | omega | (simp <;> omega))
    have kf0 := fun o => hb.frozen (p := ⟨w.heap.size + 1 + 1, o, none⟩) (by show w.heap.size + 1 + 1 < _; first | omega | (simp <;> omega))
    have hz := hb.size
    (try simp at hz)
    have kl0 : w.heap.size < w3.heap.size := by omega
    have kn0 : ¬ w.heap.size = w3.heap.size := by omega
    have km0 : ¬ w3.heap.size = w.heap.size := by omega
    have kl1 : w.heap.size + 1 < w3.heap.size := by omega
    have kn1 : ¬ w.heap.size + 1 = w3.heap.size := by omega
    have km1 : ¬ w3.heap.size = w.heap.size + 1 := by omega
    have kl2 : w.heap.size + 1 + 1 < w3.heap.size := by omega
    have kn2 : ¬ w.heap.size + 1 + 1 = w3.heap.size := by omega
    have km2 : ¬ w3.heap.size = w.heap.size + 1 + 1 := by omega
    have HB := Lib.hid (show Below w.heap.size w w3 from by exact HB.out.trans ((show Below _ _ _ from (Below.refl _ _)).trans (hb.mono (by first | omega | (simp <;> omega)))))
    have HR := Lib.hid ((show Room _ (w.heap.size + 1 + 1) 2 from HR.out).below hb (by first | omega | (simp <;> omega)))
    clear ho hb
    go_wp2_with fail
    refine (l3in_any (m.get 2) x.x (m.get 3) x.y _).mono ?_
    rintro e w4 ho
    obtain ⟨rfl, hb⟩ := ho.fn
    have kc0 := fun o => hb.cell (p := ⟨w.heap.size, o, none⟩) (by show w.heap.size < _; first | omega | (simp <;> omega))
    have kc1 := fun o => hb.cell (p := ⟨w.heap.size + 1, o, none⟩) (by show w.heap.size + 1 < _; first | omega | (simp <;> omega))
    have kc2 := fun o => hb.cell (p := ⟨w.heap.size + 1 + 1, o, none⟩) (by show w.heap.size + 1 + 1 < _; first | omega | (simp <;> omega))
    have kc3 := fun o => hb.cell (p := ⟨w3.heap.size, o, none⟩) (by show w3.heap.size < _; first | omega | (simp <;> omega))
    have kf0 := fun o => hb.frozen (p := ⟨w.heap.size + 1 + 1, o, none⟩) (by show w.heap.size + 1 + 1 < _; first | omega | (simp <;> omega))
    have hz := hb.size
    (try simp at hz)
    have kl0 : w.heap.size < w4.heap.size := by omega
    have kn0 : ¬ w.heap.size = w4.heap.size := by omega
    have km0 : ¬ w4.heap.size = w.heap.size := by omega
    have kl1 : w.heap.size + 1 < w4.heap.size := by omega
    have kn1 : ¬ w.heap.size + 1 = w4.heap.size := by omega
    have km1 : ¬ w4.heap.size = w.heap.size + 1 := by omega
    have kl2 : w.heap.size + 1 + 1 < w4.heap.size := by omega
    have kn2 : ¬ w.heap.size + 1 + 1 = w4.heap.size := by omega
    have km2 : ¬ w4.heap.size = w.heap.size + 1 + 1 := by omega
    have kl3 : w3.heap.size < w4.heap.size := by omega
    have kn3 : ¬ w3.heap.size = w4.heap.size := by omega
    have km3 : ¬ w4.heap.size = w3.heap.size := by omega
    have HB := Lib.hid (show Below w.heap.size w w4 from by exact HB.out.trans ((show Below _ _ _ from ((Below.refl _ _).alloc (by omega) _)).trans (hb.mono (by first | omega | (simp <;> omega)))))
    have HR := Lib.hid ((show Room _ (w.heap.size + 1 + 1) 2 from (HR.out.alloc (by omega) _)).below hb (by first | omega | (simp <;> omega)))
    clear ho hb
    go_wp2
    refine bodyPost_ret (v := .tuple #[.agg #[.int .i64 0, .int .i64 0, .int .i64 0, .int .i64 0, .int .i64 0, .int .i64 0], .bool false]) ?_ rfl (J2Out.no HG.out ?_)
    · exact Eq.trans (results_cell_mid2 Try.results26 _ _ (w.heap.size + 1 + 1) [.int .i64 0, .int .i64 0, .int .i64 0, .int .i64 0, .int .i64 0, .int .i64 0] _ (by rfl) (by ((repeat' first | (with_reducible refine World.rangeAt_setCells_same _ (w.heap.size + 1 + 1) 0 [.int .i64 0, .int .i64 0, .int .i64 0, .int .i64 0, .int .i64 0, .int .i64 0] ?_) | (with_reducible refine World.rangeAt_alloc ?_ _) | (with_reducible refine (World.rangeAt_drew _ _ _ _).2 ?_)); first | exact HR.out.there | (have hh := fun W h => World.rangeAt_setCells_same W (w.heap.size + 1 + 1) 0 [.int .i64 0, .int .i64 0, .int .i64 0, .int .i64 0, .int .i64 0, .int .i64 0] h; simp only [World.setCells, Nat.zero_add, Nat.reduceAdd] at hh; exact hh _ HR.out.there))) Try.underlying55 rfl (by kernel_rfl)) rfl
    · (repeat' first | (with_reducible exact HB.out) | with_reducible refine setCells_below _ _ _ ?_ (by first | omega | (simp <;> omega)) | with_reducible refine Below.setCell ?_ (by show _ ≤ _; first | omega | (simp <;> omega) | simp) _ | with_reducible refine Below.alloc ?_ (by first | omega | (simp <;> omega)) _ | with_reducible apply Below.drew)
  · have HG : Hid ((mAp m x) = (⟨(fIn (m.get 0) x.x (m.get 1) x.y).1, (fIn (m.get 2) x.x (m.get 3) x.y).1⟩, true)) := by show _ = _; simp [mAp, h1, h2, h3, h4]
    go_enter Try.func26, Try.ntmps26
    go_wp2_with fail
    refine (smatvalid_any m _).mono ?_
    rintro e w1 ho
    obtain ⟨rfl, hb⟩ := (id ho)
    have kc0 := fun o => hb.cell (p := ⟨w.heap.size, o, none⟩) (by show w.heap.size < _; first | omega | (simp <;> omega))
    have kc1 := fun o => hb.cell (p := ⟨w.heap.size + 1, o, none⟩) (by show w.heap.size + 1 < _; first | omega | (simp <;> omega))
    have kc2 := fun o => hb.cell (p := ⟨w.heap.size + 1 + 1, o, none⟩) (by show w.heap.size + 1 + 1 < _; first | omega | (simp <;> omega))
    have kf0 := fun o => hb.frozen (p := ⟨w.heap.size + 1 + 1, o, none⟩) (by show w.heap.size + 1 + 1 < _; first | omega | (simp <;> omega))
    have hz := hb.size
    (try simp at hz)
    have kl0 : w.heap.size < w1.heap.size := by omega
    have kn0 : ¬ w.heap.size = w1.heap.size := by omega
    have km0 : ¬ w1.heap.size = w.heap.size := by omega
    have kl1 : w.heap.size + 1 < w1.heap.size := by omega
    have kn1 : ¬ w.heap.size + 1 = w1.heap.size := by omega
    have km1 : ¬ w1.heap.size = w.heap.size + 1 := by omega
    have kl2 : w.heap.size + 1 + 1 < w1.heap.size := by omega
    have kn2 : ¬ w.heap.size + 1 + 1 = w1.heap.size := by omega
    have km2 : ¬ w1.heap.size = w.heap.size + 1 + 1 := by omega
    have HB := Lib.hid (show Below w.heap.size w w1 from by (repeat' first | exact Below.refl _ _ | apply bl_alloc | apply bl_drewN | apply bl_drew | refine bl_trans ?_ (by assumption) | refine bl_set ?_ (by first | omega | (simp <;> omega)) _))
    have HR := Lib.hid ((show Room _ (w.heap.size + 1 + 1) 2 from (Room.new' (by simp) rfl)).below hb (by first | omega | (simp <;> omega)))
    clear ho hb
    go_wp2_with fail
    refine (sjv_any x _).mono ?_
    rintro e w2 ho
    obtain ⟨rfl, hb⟩ := (id ho)
    have kc0 := fun o => hb.cell (p := ⟨w.heap.size, o, none⟩) (by show w.heap.size < _; first | omega | (simp <;> omega))
    have kc1 := fun o => hb.cell (p := ⟨w.heap.size + 1, o, none⟩) (by show w.heap.size + 1 < _; first | omega | (simp <;> omega))
    have kc2 := fun o => hb.cell (p := ⟨w.heap.size + 1 + 1, o, none⟩) (by show w.heap.size + 1 + 1 < _; first | omega | (simp <;> omega))
    have kf0 := fun o => hb.frozen (p := ⟨w.heap.size + 1 + 1, o, none⟩) (by show w.heap.size + 1 + 1 < _; first | omega | (simp <;> omega))
    have hz := hb.size
    (try simp at hz)
    have kl0 : w.heap.size < w2.heap.size := by omega
    have kn0 : ¬ w.heap.size = w2.heap.size := by omega
    have km0 : ¬ w2.heap.size = w.heap.size := by omega
    have kl1 : w.heap.size + 1 < w2.heap.size := by omega
    have kn1 : ¬ w.heap.size + 1 = w2.heap.size := by omega
    have km1 : ¬ w2.heap.size = w.heap.size + 1 := by omega
    have kl2 : w.heap.size + 1 + 1 < w2.heap.size := by omega
    have kn2 : ¬ w.heap.size + 1 + 1 = w2.heap.size := by omega
    have km2 : ¬ w2.heap.size = w.heap.size + 1 + 1 := by omega
    have HB := Lib.hid (show Below w.heap.size w w2 from by exact HB.out.trans ((show Below _ _ _ from (Below.refl _ _)).trans (hb.mono (by first | omega | (simp <;> omega)))))
    have HR := Lib.hid ((show Room _ (w.heap.size + 1 + 1) 2 from HR.out).below hb (by first | omega | (simp <;> omega)))
    clear ho hb
    go_wp2_with fail
    refine (l3in_any (m.get 0) x.x (m.get 1) x.y _).mono ?_
    rintro e w3 ho
    obtain ⟨rfl, hb⟩ := ho.fn
    have kc0 := fun o => hb.cell (p := ⟨w.heap.size, o, none⟩) (by show w.heap.size < _; first | omega | (simp <;> omega))
    have kc1 := fun o => hb.cell (p := ⟨w.heap.size + 1, o, none⟩) (by show w.heap.size + 1 < _; first | omega | (simp <;> omega))
    have kc2 := fun o => hb.cell (p := ⟨w.heap.size + 1 + 1, o, none⟩) (by show w.heap.size + 1 + 1 < _; first | omega | (simp <;> omega))
    have kf0 := fun o => hb.frozen (p := ⟨w.heap.size + 1 + 1, o, none⟩) (by show w.heap.size + 1 + 1 < _; first | omega | (simp <;> omega))
    have hz := hb.size
    (try simp at hz)
    have kl0 : w.heap.size < w3.heap.size := by omega
    have kn0 : ¬ w.heap.size = w3.heap.size := by omega
    have km0 : ¬ w3.heap.size = w.heap.size := by omega
    have kl1 : w.heap.size + 1 < w3.heap.size := by omega
    have kn1 : ¬ w.heap.size + 1 = w3.heap.size := by omega
    have km1 : ¬ w3.heap.size = w.heap.size + 1 := by omega
    have kl2 : w.heap.size + 1 + 1 < w3.heap.size := by omega
    have kn2 : ¬ w.heap.size + 1 + 1 = w3.heap.size := by omega
    have km2 : ¬ w3.heap.size = w.heap.size + 1 + 1 := by omega
    have HB := Lib.hid (show Below w.heap.size w w3 from by exact HB.out.trans ((show Below _ _ _ from (Below.refl _ _)).trans (hb.mono (by first | omega | (simp <;> omega)))))
    have HR := Lib.hid ((show Room _ (w.heap.size + 1 + 1) 2 from HR.out).below hb (by first | omega | (simp <;> omega)))
    clear ho hb
    go_wp2_with fail
    refine (l3in_any (m.get 2) x.x (m.get 3) x.y _).mono ?_
    rintro e w4 ho
    obtain ⟨rfl, hb⟩ := ho.fn
    have kc0 := fun o => hb.cell (p := ⟨w.heap.size, o, none⟩) (by show w.heap.size < _; first | omega | (simp <;> omega))
    have kc1 := fun o => hb.cell (p := ⟨w.heap.size + 1, o, none⟩) (by show w.heap.size + 1 < _; first | omega | (simp <;> omega))
    have kc2 := fun o => hb.cell (p := ⟨w.heap.size + 1 + 1, o, none⟩) (by show w.heap.size + 1 + 1 < _; first | omega | (simp <;> omega))
    have kc3 := fun o => hb.cell (p := ⟨w3.heap.size, o, none⟩) (by show w3.heap.size < _; first | omega | (simp <;> omega))
    have kf0 := fun o => hb.frozen (p := ⟨w.heap.size + 1 + 1, o, none⟩) (by show w.heap.size + 1 + 1 < _; first | omega | (simp <;> omega))
    have hz := hb.size
    (try simp at hz)
    have kl0 : w.heap.size < w4.heap.size := by omega
    have kn0 : ¬ w.heap.size = w4.heap.size := by omega
    have km0 : ¬ w4.heap.size = w.heap.size := by omega
    have kl1 : w.heap.size + 1 < w4.heap.size := by omega
    have kn1 : ¬ w.heap.size + 1 = w4.heap.size := by omega
    have km1 : ¬ w4.heap.size = w.heap.size + 1 := by omega
    have kl2 : w.heap.size + 1 + 1 < w4.heap.size := by omega
    have kn2 : ¬ w.heap.size + 1 + 1 = w4.heap.size := by omega
    have km2 : ¬ w4.heap.size = w.heap.size + 1 + 1 := by omega
    have kl3 : w3.heap.size < w4.heap.size := by omega
    have kn3 : ¬ w3.heap.size = w4.heap.size := by omega
    have km3 : ¬ w4.heap.size = w3.heap.size := by omega
    have HB := Lib.hid (show Below w.heap.size w w4 from by exact HB.out.trans ((show Below _ _ _ from ((Below.refl _ _).alloc (by omega) _)).trans (hb.mono (by first | omega | (simp <;> omega)))))
    have HR := Lib.hid ((show Room _ (w.heap.size + 1 + 1) 2 from (HR.out.alloc (by omega) _)).below hb (by first | omega | (simp <;> omega)))
    clear ho hb
    go_wp2
    refine bodyPost_ret (v := .tuple #[.agg #[.int .i64 (fIn (m.get 0) x.x (m.get 1) x.y).1.re, .int .i64 (fIn (m.get 0) x.x (m.get 1) x.y).1.im, .int .i64 (fIn (m.get 0) x.x (m.get 1) x.y).1.den, .int .i64 (fIn (m.get 2) x.x (m.get 3) x.y).1.re, .int .i64 (fIn (m.get 2) x.x (m.get 3) x.y).1.im, .int .i64 (fIn (m.get 2) x.x (m.get 3) x.y).1.den], .bool true]) ?_ rfl (J2Out.yes (f := ⟨(fIn (m.get 0) x.x (m.get 1) x.y).1, (fIn (m.get 2) x.x (m.get 3) x.y).1⟩) (by rw [HG.out]) (by rw [HG.out]) ?_)
    · exact Eq.trans (results_cell_mid2 Try.results26 _ _ (w.heap.size + 1 + 1) [.int .i64 (fIn (m.get 0) x.x (m.get 1) x.y).1.re, .int .i64 (fIn (m.get 0) x.x (m.get 1) x.y).1.im, .int .i64 (fIn (m.get 0) x.x (m.get 1) x.y).1.den, .int .i64 (fIn (m.get 2) x.x (m.get 3) x.y).1.re, .int .i64 (fIn (m.get 2) x.x (m.get 3) x.y).1.im, .int .i64 (fIn (m.get 2) x.x (m.get 3) x.y).1.den] _ (by rfl) (by ((repeat' first | (with_reducible refine World.rangeAt_setCells_same _ (w.heap.size + 1 + 1) 0 [.int .i64 (fIn (m.get 0) x.x (m.get 1) x.y).1.re, .int .i64 (fIn (m.get 0) x.x (m.get 1) x.y).1.im, .int .i64 (fIn (m.get 0) x.x (m.get 1) x.y).1.den, .int .i64 (fIn (m.get 2) x.x (m.get 3) x.y).1.re, .int .i64 (fIn (m.get 2) x.x (m.get 3) x.y).1.im, .int .i64 (fIn (m.get 2) x.x (m.get 3) x.y).1.den] ?_) | (with_reducible refine World.rangeAt_alloc ?_ _) | (with_reducible refine (World.rangeAt_drew _ _ _ _).2 ?_)); first | exact HR.out.there | (have hh := fun W h => World.rangeAt_setCells_same W (w.heap.size + 1 + 1) 0 [.int .i64 (fIn (m.get 0) x.x (m.get 1) x.y).1.re, .int .i64 (fIn (m.get 0) x.x (m.get 1) x.y).1.im, .int .i64 (fIn (m.get 0) x.x (m.get 1) x.y).1.den, .int .i64 (fIn (m.get 2) x.x (m.get 3) x.y).1.re, .int .i64 (fIn (m.get 2) x.x (m.get 3) x.y).1.im, .int .i64 (fIn (m.get 2) x.x (m.get 3) x.y).1.den] h; simp only [World.setCells, Nat.zero_add, Nat.reduceAdd] at hh; exact hh _ HR.out.there))) Try.underlying55 rfl (by kernel_rfl)) rfl
    · (repeat' first | (with_reducible exact HB.out) | with_reducible refine setCells_below _ _ _ ?_ (by first | omega | (simp <;> omega)) | with_reducible refine Below.setCell ?_ (by show _ ≤ _; first | omega | (simp <;> omega) | simp) _ | with_reducible refine Below.alloc ?_ (by first | omega | (simp <;> omega)) _ | with_reducible apply Below.drew)
end Go.Proofs.Ytmfiiambannecaa
