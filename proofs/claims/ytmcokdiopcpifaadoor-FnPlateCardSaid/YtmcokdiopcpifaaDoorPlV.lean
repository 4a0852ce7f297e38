/- Contracts of the reference: four results, adjoints. -/
import Derived.Test.YtmcokdiopcpifaaDoorPlT
import Derived.Test.YtmcokdiopcpifaaDoorPlG4
set_option maxRecDepth 100000
namespace Go.Proofs.YtmcokdiopcpifaaDoor
open Go.RowKit Pol
theorem M4Out.fn {g : M4 × Bool} {w w' : World} {e : Ending} (h : M4Out g w e w') : e = .returned (.tuple #[.agg #[.int .i64 g.1.a.re, .int .i64 g.1.a.im, .int .i64 g.1.a.den, .int .i64 g.1.b.re, .int .i64 g.1.b.im, .int .i64 g.1.b.den, .int .i64 g.1.c.re, .int .i64 g.1.c.im, .int .i64 g.1.c.den, .int .i64 g.1.d.re, .int .i64 g.1.d.im, .int .i64 g.1.d.den], .bool g.2]) ∧ Below w.heap.size w w' := h
def g4 (a b c d : Fr) (ok : Bool) : M4 × Bool := if ok = true then (⟨a, b, c, d⟩, true) else (m4z, false)
set_option maxRecDepth 100000 in
set_option maxHeartbeats 4000000 in
theorem l5Four_any (a b c d : Fr) (ok : Bool) (w : World) :
    Calls Tryd.prog 113 #[.agg #[.int .i64 a.re, .int .i64 a.im, .int .i64 a.den], .agg #[.int .i64 b.re, .int .i64 b.im, .int .i64 b.den], .agg #[.int .i64 c.re, .int .i64 c.im, .int .i64 c.den], .agg #[.int .i64 d.re, .int .i64 d.im, .int .i64 d.den], .bool ok] w (M4Out (g4 a b c d ok) w) := by
  cases ok
  · go_enter Tryd.func113, Tryd.ntmps113
    go_wp2
    refine bodyPost_ret (v := .tuple #[.agg #[.int .i64 0, .int .i64 0, .int .i64 0, .int .i64 0, .int .i64 0, .int .i64 0, .int .i64 0, .int .i64 0, .int .i64 0, .int .i64 0, .int .i64 0, .int .i64 0], .bool false]) (by simp [results, Tryd.results113, go_sem]) rfl (M4Out.no rfl ?_)
    (repeat' first | exact Below.refl _ _ | apply bl_alloc | apply bl_drewN | apply bl_drew | refine bl_trans ?_ (by assumption) | refine bl_set ?_ (by first | omega | (simp <;> omega)) _)
  · go_enter Tryd.func113, Tryd.ntmps113
    go_wp2
    refine bodyPost_ret (v := .tuple #[.agg #[.int .i64 a.re, .int .i64 a.im, .int .i64 a.den, .int .i64 b.re, .int .i64 b.im, .int .i64 b.den, .int .i64 c.re, .int .i64 c.im, .int .i64 c.den, .int .i64 d.re, .int .i64 d.im, .int .i64 d.den], .bool true]) (by simp [results, Tryd.results113, go_sem]) rfl (M4Out.yes (f := ⟨a, b, c, d⟩) rfl rfl ?_)
    (repeat' first | exact Below.refl _ _ | apply bl_alloc | apply bl_drewN | apply bl_drew | refine bl_trans ?_ (by assumption) | refine bl_set ?_ (by first | omega | (simp <;> omega)) _)
theorem gAdj_fl {m : M4} {p q r t : Bool} (h1 : (fMirror m.a).2 = p) (h2 : (fMirror m.c).2 = q) (h3 : (fMirror m.b).2 = r) (h4 : (fMirror m.d).2 = t) : gAdj m = g4 (fMirror m.a).1 (fMirror m.c).1 (fMirror m.b).1 (fMirror m.d).1 (p && q && r && t) := by
  rw [fMirror_snd] at h1 h2 h3 h4
  unfold gAdj g4
  have : all4 vld m = (p && q && r && t) := by
    rw [← h1, ← h2, ← h3, ← h4, Bool.eq_iff_iff, all4_iff]
    simp only [Bool.and_eq_true]; constructor
    · intro ⟨a, b, c, d⟩; exact ⟨⟨⟨a, c⟩, b⟩, d⟩
    · intro ⟨⟨⟨a, c⟩, b⟩, d⟩; exact ⟨a, b, c, d⟩
  rw [this]
set_option maxRecDepth 100000 in
set_option maxHeartbeats 8000000 in
theorem smatadj_any (m : M4) (w : World) :
    Calls Tryd.prog 106 #[.agg #[.int .i64 m.a.re, .int .i64 m.a.im, .int .i64 m.a.den, .int .i64 m.b.re, .int .i64 m.b.im, .int .i64 m.b.den, .int .i64 m.c.re, .int .i64 m.c.im, .int .i64 m.c.den, .int .i64 m.d.re, .int .i64 m.d.im, .int .i64 m.d.den]] w (M4Out (gAdj m) w) := by
  cases h1 : (fMirror m.a).2
  · have HG : Hid (gAdj m = g4 (fMirror m.a).1 (fMirror m.c).1 (fMirror m.b).1 (fMirror m.d).1 false) := by show _ = _; rw [gAdj_fl (m := m) h1 rfl rfl rfl]; rfl
    go_enter Tryd.func106, Tryd.ntmps106
    go_wp2_with fail
    refine (spmirror_fr m.a _).mono ?_
    rintro e w1 ho
    obtain ⟨rfl, hb⟩ := ho.fn
    have kc0 := fun o => hb.cell (p := ⟨w.heap.size, o, none⟩) (by show w.heap.size < _; first | omega | (simp <;> omega))
    have kc1 := fun o => hb.cell (p := ⟨w.heap.size + 1, o, none⟩) (by show w.heap.size + 1 < _; first | omega | (simp <;> omega))
    have kf0 := fun o => hb.frozen (p := ⟨w.heap.size + 1, o, none⟩) (by show w.heap.size + 1 < _; first | omega | (simp <;> omega))
    have hz := hb.size
    (try simp at hz)
    have kl0 : w.heap.size < w1.heap.size := by omega
    have kn0 : ¬ w.heap.size = w1.heap.size := by omega
    have km0 : ¬ w1.heap.size = w.heap.size := by omega
    have kl1 : w.heap.size + 1 < w1.heap.size := by omega
    have kn1 : ¬ w.heap.size + 1 = w1.heap.size := by omega
    have km1 : ¬ w1.heap.size = w.heap.size + 1 := by omega
    have HB := Lib.hid (show Below w.heap.size w w1 from by (repeat' first | exact Below.refl _ _ | apply bl_alloc | apply bl_drewN | apply bl_drew | refine bl_trans ?_ (by assumption) | refine bl_set ?_ (by first | omega | (simp <;> omega)) _))
    have HR := Lib.hid ((show Room _ (w.heap.size + 1) 4 from (Room.new' (by simp) rfl)).below hb (by first | omega | (simp <;> omega)))
    clear ho hb
    go_wp2_with fail
    refine (spmirror_fr m.c _).mono ?_
    rintro e w2 ho
    obtain ⟨rfl, hb⟩ := ho.fn
    have kc0 := fun o => hb.cell (p := ⟨w.heap.size, o, none⟩) (by show w.heap.size < _; first | omega | (simp <;> omega))
    have kc1 := fun o => hb.cell (p := ⟨w.heap.size + 1, o, none⟩) (by show w.heap.size + 1 < _; first | omega | (simp <;> omega))
    have kc2 := fun o => hb.cell (p := ⟨w1.heap.size, o, none⟩) (by show w1.heap.size < _; first | omega | (simp <;> omega))
    have kf0 := fun o => hb.frozen (p := ⟨w.heap.size + 1, o, none⟩) (by show w.heap.size + 1 < _; first | omega | (simp <;> omega))
    have hz := hb.size
    (try simp at hz)
    have kl0 : w.heap.size < w2.heap.size := by omega
    have kn0 : ¬ w.heap.size = w2.heap.size := by omega
    have km0 : ¬ w2.heap.size = w.heap.size := by omega
    have kl1 : w.heap.size + 1 < w2.heap.size := by omega
    have kn1 : ¬ w.heap.size + 1 = w2.heap.size := by omega
    have km1 : ¬ w2.heap.size = w.heap.size + 1 := by omega
    have kl2 : w1.heap.size < w2.heap.size := by omega
    have kn2 : ¬ w1.heap.size = w2.heap.size := by omega
    have km2 : ¬ w2.heap.size = w1.heap.size := by omega
    have HB := Lib.hid (show Below w.heap.size w w2 from by exact HB.out.trans ((show Below _ _ _ from ((Below.refl _ _).alloc (by omega) _)).trans (hb.mono (by first | omega | (simp <;> omega)))))
    have HR := Lib.hid ((show Room _ (w.heap.size + 1) 4 from (HR.out.alloc (by omega) _)).below hb (by first | omega | (simp <;> omega)))
    clear ho hb
    go_wp2_with fail
    refine (spmirror_fr m.b _).mono ?_
    rintro e w3 ho
    obtain ⟨rfl, hb⟩ := ho.fn
    have kc0 := fun o => hb.cell (p := ⟨w.heap.size, o, none⟩) (by show w.heap.size < _; first | omega | (simp <;> omega))
    have kc1 := fun o => hb.cell (p := ⟨w.heap.size + 1, o, none⟩) (by show w.heap.size + 1 < _; first | omega | (simp <;> omega))
    have kc2 := fun o => hb.cell (p := ⟨w1.heap.size, o, none⟩) (by show w1.heap.size < _; first | omega | (simp <;> omega))
    have kc3 := fun o => hb.cell (p := ⟨w2.heap.size, o, none⟩) (by show w2.heap.size < _; first | omega | (simp <;> omega))
    have kf0 := fun o => hb.frozen (p := ⟨w.heap.size + 1, o, none⟩) (by show w.heap.size + 1 < _; first | omega | (simp <;> omega))
    have hz := hb.size
    (try simp at hz)
    have kl0 : w.heap.size < w3.heap.size := by omega
    have kn0 : ¬ w.heap.size = w3.heap.size := by omega
    have km0 : ¬ w3.heap.size = w.heap.size := by omega
    have kl1 : w.heap.size + 1 < w3.heap.size := by omega
    have kn1 : ¬ w.heap.size + 1 = w3.heap.size := by omega
    have km1 : ¬ w3.heap.size = w.heap.size + 1 := by omega
    have kl2 : w1.heap.size < w3.heap.size := by omega
    have kn2 : ¬ w1.heap.size = w3.heap.size := by omega
    have km2 : ¬ w3.heap.size = w1.heap.size := by omega
    have kl3 : w2.heap.size < w3.heap.size := by omega
    have kn3 : ¬ w2.heap.size = w3.heap.size := by omega
    have km3 : ¬ w3.heap.size = w2.heap.size := by omega
    have HB := Lib.hid (show Below w.heap.size w w3 from by exact HB.out.trans ((show Below _ _ _ from ((Below.refl _ _).alloc (by omega) _)).trans (hb.mono (by first | omega | (simp <;> omega)))))
    have HR := Lib.hid ((show Room _ (w.heap.size + 1) 4 from (HR.out.alloc (by omega) _)).below hb (by first | omega | (simp <;> omega)))
    clear ho hb
    go_wp2_with fail
    refine (spmirror_fr m.d _).mono ?_
    rintro e w4 ho
    obtain ⟨rfl, hb⟩ := ho.fn
    have kc0 := fun o => hb.cell (p := ⟨w.heap.size, o, none⟩) (by show w.heap.size < _; first | omega | (simp <;> omega))
    have kc1 := fun o => hb.cell (p := ⟨w.heap.size + 1, o, none⟩) (by show w.heap.size + 1 < _; first | omega | (simp <;> omega))
    have kc2 := fun o => hb.cell (p := ⟨w1.heap.size, o, none⟩) (by show w1.heap.size < _; first | omega | (simp <;> omega))
    have kc3 := fun o => hb.cell (p := ⟨w2.heap.size, o, none⟩) (by show w2.heap.size < _; first | omega | (simp <;> omega))
    have kc4 := fun o => hb.cell (p := ⟨w3.heap.size, o, none⟩) (by show w3.heap.size < _; first | omega | (simp <;> omega))
    have kf0 := fun o => hb.frozen (p := ⟨w.heap.size + 1, o, none⟩) (by show w.heap.size + 1 < _; first | omega | (simp <;> omega))
    have hz := hb.size
    (try simp at hz)
    have kl0 : w.heap.size < w4.heap.size := by omega
    have kn0 : ¬ w.heap.size = w4.heap.size := by omega
    have km0 : ¬ w4.heap.size = w.heap.size := by omega
    have kl1 : w.heap.size + 1 < w4.heap.size := by omega
    have kn1 : ¬ w.heap.size + 1 = w4.heap.size := by omega
    have km1 : ¬ w4.heap.size = w.heap.size + 1 := by omega
    have kl2 : w1.heap.size < w4.heap.size := by omega
    have kn2 : ¬ w1.heap.size = w4.heap.size := by omega
    have km2 : ¬ w4.heap.size = w1.heap.size := by omega
    have kl3 : w2.heap.size < w4.heap.size := by omega
    have kn3 : ¬ w2.heap.size = w4.heap.size := by omega
    have km3 : ¬ w4.heap.size = w2.heap.size := by omega
    have kl4 : w3.heap.size < w4.heap.size := by omega
    have kn4 : ¬ w3.heap.size = w4.heap.size := by omega
    have km4 : ¬ w4.heap.size = w3.heap.size := by omega
    have HB := Lib.hid (show Below w.heap.size w w4 from by exact HB.out.trans ((show Below _ _ _ from ((Below.refl _ _).alloc (by omega) _)).trans (hb.mono (by first | omega | (simp <;> omega)))))
    have HR := Lib.hid ((show Room _ (w.heap.size + 1) 4 from (HR.out.alloc (by omega) _)).below hb (by first | omega | (simp <;> omega)))
    clear ho hb
    go_wp2_with fail
    refine (l5Four_any _ _ _ _ _ _).mono ?_
    rintro e w5 ho
    rw [← HG.out] at ho
    obtain ⟨rfl, hb⟩ := ho.fn
    have kc0 := fun o => hb.cell (p := ⟨w.heap.size + 1, o, none⟩) (by show w.heap.size + 1 < _; first | omega | (simp <;> omega))
    have kf0 := fun o => hb.frozen (p := ⟨w.heap.size + 1, o, none⟩) (by show w.heap.size + 1 < _; first | omega | (simp <;> omega))
    have hz := hb.size
    (try simp at hz)
    have kl0 : w.heap.size + 1 < w5.heap.size := by omega
    have kn0 : ¬ w.heap.size + 1 = w5.heap.size := by omega
    have km0 : ¬ w5.heap.size = w.heap.size + 1 := by omega
    have HB := Lib.hid (show Below w.heap.size w w5 from by exact HB.out.trans ((show Below _ _ _ from ((Below.refl _ _).alloc (by omega) _)).trans (hb.mono (by first | omega | (simp <;> omega)))))
    have HR := Lib.hid ((show Room _ (w.heap.size + 1) 4 from (HR.out.alloc (by omega) _)).below hb (by first | omega | (simp <;> omega)))
    clear ho hb
    go_wp2
    refine bodyPost_ret (v := .tuple #[.agg #[.int .i64 (gAdj m).1.a.re, .int .i64 (gAdj m).1.a.im, .int .i64 (gAdj m).1.a.den, .int .i64 (gAdj m).1.b.re, .int .i64 (gAdj m).1.b.im, .int .i64 (gAdj m).1.b.den, .int .i64 (gAdj m).1.c.re, .int .i64 (gAdj m).1.c.im, .int .i64 (gAdj m).1.c.den, .int .i64 (gAdj m).1.d.re, .int .i64 (gAdj m).1.d.im, .int .i64 (gAdj m).1.d.den], .bool (gAdj m).2]) ?_ rfl ?_
    · exact Eq.trans (results_cell_mid2 rfl _ _ (w.heap.size + 1) [.int .i64 (gAdj m).1.a.re, .int .i64 (gAdj m).1.a.im, .int .i64 (gAdj m).1.a.den, .int .i64 (gAdj m).1.b.re, .int .i64 (gAdj m).1.b.im, .int .i64 (gAdj m).1.b.den, .int .i64 (gAdj m).1.c.re, .int .i64 (gAdj m).1.c.im, .int .i64 (gAdj m).1.c.den, .int .i64 (gAdj m).1.d.re, .int .i64 (gAdj m).1.d.im, .int .i64 (gAdj m).1.d.den] _ (by rfl) (World.rangeAt_setCells_same w5 (w.heap.size + 1) 0 [.int .i64 (gAdj m).1.a.re, .int .i64 (gAdj m).1.a.im, .int .i64 (gAdj m).1.a.den, .int .i64 (gAdj m).1.b.re, .int .i64 (gAdj m).1.b.im, .int .i64 (gAdj m).1.b.den, .int .i64 (gAdj m).1.c.re, .int .i64 (gAdj m).1.c.im, .int .i64 (gAdj m).1.c.den, .int .i64 (gAdj m).1.d.re, .int .i64 (gAdj m).1.d.im, .int .i64 (gAdj m).1.d.den] HR.out.there) Tryd.underlying41 rfl (by kernel_rfl)) rfl
    · exact ⟨rfl, setCells_below (w.heap.size + 1) [.int .i64 (gAdj m).1.a.re, .int .i64 (gAdj m).1.a.im, .int .i64 (gAdj m).1.a.den, .int .i64 (gAdj m).1.b.re, .int .i64 (gAdj m).1.b.im, .int .i64 (gAdj m).1.b.den, .int .i64 (gAdj m).1.c.re, .int .i64 (gAdj m).1.c.im, .int .i64 (gAdj m).1.c.den, .int .i64 (gAdj m).1.d.re, .int .i64 (gAdj m).1.d.im, .int .i64 (gAdj m).1.d.den] 0 HB.out (by omega)⟩
  cases h2 : (fMirror m.c).2
  · have HG : Hid (gAdj m = g4 (fMirror m.a).1 (fMirror m.c).1 (fMirror m.b).1 (fMirror m.d).1 false) := by show _ = _; rw [gAdj_fl (m := m) h1 h2 rfl rfl]; rfl
    go_enter Tryd.func106, Tryd.ntmps106
    go_wp2_with fail
    refine (spmirror_fr m.a _).mono ?_
    rintro e w1 ho
    obtain ⟨rfl, hb⟩ := ho.fn
    have kc0 := fun o => hb.cell (p := ⟨w.heap.size, o, none⟩) (by show w.heap.size < _; first | omega | (simp <;> omega))
    have kc1 := fun o => hb.cell (p := ⟨w.heap.size + 1, o, none⟩) (by show w.heap.size + 1 < _; first | omega | (simp <;> omega))
    have kf0 := fun o => hb.frozen (p := ⟨w.heap.size + 1, o, none⟩) (by show w.heap.size + 1 < _; first | omega | (simp <;> omega))
    have hz := hb.size
    (try simp at hz)
    have kl0 : w.heap.size < w1.heap.size := by omega
    have kn0 : ¬ w.heap.size = w1.heap.size := by omega
    have km0 : ¬ w1.heap.size = w.heap.size := by omega
    have kl1 : w.heap.size + 1 < w1.heap.size := by omega
    have kn1 : ¬ w.heap.size + 1 = w1.heap.size := by omega
    have km1 : ¬ w1.heap.size = w.heap.size + 1 := by omega
    have HB := Lib.hid (show Below w.heap.size w w1 from by (repeat' first | exact Below.refl _ _ | apply bl_alloc | apply bl_drewN | apply bl_drew | refine bl_trans ?_ (by assumption) | refine bl_set ?_ (by first | omega | (simp <;> omega)) _))
    have HR := Lib.hid ((show Room _ (w.heap.size + 1) 4 from (Room.new' (by simp) rfl)).below hb (by first | omega | (simp <;> omega)))
    clear ho hb
    go_wp2_with fail
    refine (spmirror_fr m.c _).mono ?_
    rintro e w2 ho
    obtain ⟨rfl, hb⟩ := ho.fn
    have kc0 := fun o => hb.cell (p := ⟨w.heap.size, o, none⟩) (by show w.heap.size < _; first | omega | (simp <;> omega))
    have kc1 := fun o => hb.cell (p := ⟨w.heap.size + 1, o, none⟩) (by show w.heap.size + 1 < _; first | omega | (simp <;> omega))
    have kc2 := fun o => hb.cell (p := ⟨w1.heap.size, o, none⟩) (by show w1.heap.size < _; first | omega | (simp <;> omega))
    have kf0 := fun o => hb.frozen (p := ⟨w.heap.size + 1, o, none⟩) (by show w.heap.size + 1 < _; first | omega | (simp <;> omega))
    have hz := hb.size
    (try simp at hz)
    have kl0 : w.heap.size < w2.heap.size := by omega
    have kn0 : ¬ w.heap.size = w2.heap.size := by omega
    have km0 : ¬ w2.heap.size = w.heap.size := by omega
    have kl1 : w.heap.size + 1 < w2.heap.size := by omega
    have kn1 : ¬ w.heap.size + 1 = w2.heap.size := by omega
    have km1 : ¬ w2.heap.size = w.heap.size + 1 := by omega
    have kl2 : w1.heap.size < w2.heap.size := by omega
    have kn2 : ¬ w1.heap.size = w2.heap.size := by omega
    have km2 : ¬ w2.heap.size = w1.heap.size := by omega
    have HB := Lib.hid (show Below w.heap.size w w2 from by exact HB.out.trans ((show Below _ _ _ from ((Below.refl _ _).alloc (by omega) _)).trans (hb.mono (by first | omega | (simp <;> omega)))))
    have HR := Lib.hid ((show Room _ (w.heap.size + 1) 4 from (HR.out.alloc (by omega) _)).below hb (by first | omega | (simp <;> omega)))
    clear ho hb
    go_wp2_with fail
    refine (spmirror_fr m.b _).mono ?_
    rintro e w3 ho
    obtain ⟨rfl, hb⟩ := ho.fn
    have kc0 := fun o => hb.cell (p := ⟨w.heap.size, o, none⟩) (by show w.heap.size < _; first | omega | (simp <;> omega))
    have kc1 := fun o => hb.cell (p := ⟨w.heap.size + 1, o, none⟩) (by show w.heap.size + 1 < _; first | omega | (simp <;> omega))
    have kc2 := fun o => hb.cell (p := ⟨w1.heap.size, o, none⟩) (by show w1.heap.size < _; first | omega | (simp <;> omega))
    have kc3 := fun o => hb.cell (p := ⟨w2.heap.size, o, none⟩) (by show w2.heap.size < _; first | omega | (simp <;> omega))
    have kf0 := fun o => hb.frozen (p := ⟨w.heap.size + 1, o, none⟩) (by show w.heap.size + 1 < _; first | omega | (simp <;> omega))
    have hz := hb.size
    (try simp at hz)
    have kl0 : w.heap.size < w3.heap.size := by omega
    have kn0 : ¬ w.heap.size = w3.heap.size := by omega
    have km0 : ¬ w3.heap.size = w.heap.size := by omega
    have kl1 : w.heap.size + 1 < w3.heap.size := by omega
    have kn1 : ¬ w.heap.size + 1 = w3.heap.size := by omega
    have km1 : ¬ w3.heap.size = w.heap.size + 1 := by omega
    have kl2 : w1.heap.size < w3.heap.size := by omega
    have kn2 : ¬ w1.heap.size = w3.heap.size := by omega
    have km2 : ¬ w3.heap.size = w1.heap.size := by omega
    have kl3 : w2.heap.size < w3.heap.size := by omega
    have kn3 : ¬ w2.heap.size = w3.heap.size := by omega
    have km3 : ¬ w3.heap.size = w2.heap.size := by omega
    have HB := Lib.hid (show Below w.heap.size w w3 from by exact HB.out.trans ((show Below _ _ _ from ((Below.refl _ _).alloc (by omega) _)).trans (hb.mono (by first | omega | (simp <;> omega)))))
    have HR := Lib.hid ((show Room _ (w.heap.size + 1) 4 from (HR.out.alloc (by omega) _)).below hb (by first | omega | (simp <;> omega)))
    clear ho hb
    go_wp2_with fail
    refine (spmirror_fr m.d _).mono ?_
    rintro e w4 ho
    obtain ⟨rfl, hb⟩ := ho.fn
    have kc0 := fun o => hb.cell (p := ⟨w.heap.size, o, none⟩) (by show w.heap.size < _; first | omega | (simp <;> omega))
    have kc1 := fun o => hb.cell (p := ⟨w.heap.size + 1, o, none⟩) (by show w.heap.size + 1 < _; first | omega | (simp <;> omega))
    have kc2 := fun o => hb.cell (p := ⟨w1.heap.size, o, none⟩) (by show w1.heap.size < _; first | omega | (simp <;> omega))
    have kc3 := fun o => hb.cell (p := ⟨w2.heap.size, o, none⟩) (by show w2.heap.size < _; first | omega | (simp <;> omega))
    have kc4 := fun o => hb.cell (p := ⟨w3.heap.size, o, none⟩) (by show w3.heap.size < _; first | omega | (simp <;> omega))
    have kf0 := fun o => hb.frozen (p := ⟨w.heap.size + 1, o, none⟩) (by show w.heap.size + 1 < _; first | omega | (simp <;> omega))
    have hz := hb.size
    (try simp at hz)
    have kl0 : w.heap.size < w4.heap.size := by omega
    have kn0 : ¬ w.heap.size = w4.heap.size := by omega
    have km0 : ¬ w4.heap.size = w.heap.size := by omega
    have kl1 : w.heap.size + 1 < w4.heap.size := by omega
    have kn1 : ¬ w.heap.size + 1 = w4.heap.size := by omega
    have km1 : ¬ w4.heap.size = w.heap.size + 1 := by omega
    have kl2 : w1.heap.size < w4.heap.size := by omega
    have kn2 : ¬ w1.heap.size = w4.heap.size := by omega
    have km2 : ¬ w4.heap.size = w1.heap.size := by omega
    have kl3 : w2.heap.size < w4.heap.size := by omega
    have kn3 : ¬ w2.heap.size = w4.heap.size := by omega
    have km3 : ¬ w4.heap.size = w2.heap.size := by omega
    have kl4 : w3.heap.size < w4.heap.size := by omega
    have kn4 : ¬ w3.heap.size = w4.heap.size := by omega
    have km4 : ¬ w4.heap.size = w3.heap.size := by omega
    have HB := Lib.hid (show Below w.heap.size w w4 from by exact HB.out.trans ((show Below _ _ _ from ((Below.refl _ _).alloc (by omega) _)).trans (hb.mono (by first | omega | (simp <;> omega)))))
    have HR := Lib.hid ((show Room _ (w.heap.size + 1) 4 from (HR.out.alloc (by omega) _)).below hb (by first | omega | (simp <;> omega)))
    clear ho hb
    go_wp2_with fail
    refine (l5Four_any _ _ _ _ _ _).mono ?_
    rintro e w5 ho
    rw [← HG.out] at ho
    obtain ⟨rfl, hb⟩ := ho.fn
    have kc0 := fun o => hb.cell (p := ⟨w.heap.size + 1, o, none⟩) (by show w.heap.size + 1 < _; first | omega | (simp <;> omega))
    have kf0 := fun o => hb.frozen (p := ⟨w.heap.size + 1, o, none⟩) (by show w.heap.size + 1 < _; first | omega | (simp <;> omega))
    have hz := hb.size
    (try simp at hz)
    have kl0 : w.heap.size + 1 < w5.heap.size := by omega
    have kn0 : ¬ w.heap.size + 1 = w5.heap.size := by omega
    have km0 : ¬ w5.heap.size = w.heap.size + 1 := by omega
    have HB := Lib.hid (show Below w.heap.size w w5 from by exact HB.out.trans ((show Below _ _ _ from ((Below.refl _ _).alloc (by omega) _)).trans (hb.mono (by first | omega | (simp <;> omega)))))
    have HR := Lib.hid ((show Room _ (w.heap.size + 1) 4 from (HR.out.alloc (by omega) _)).below hb (by first | omega | (simp <;> omega)))
    clear ho hb
    go_wp2
    refine bodyPost_ret (v := .tuple #[.agg #[.int .i64 (gAdj m).1.a.re, .int .i64 (gAdj m).1.a.im, .int .i64 (gAdj m).1.a.den, .int .i64 (gAdj m).1.b.re, .int .i64 (gAdj m).1.b.im, .int .i64 (gAdj m).1.b.den, .int .i64 (gAdj m).1.c.re, .int .i64 (gAdj m).1.c.im, .int .i64 (gAdj m).1.c.den, .int .i64 (gAdj m).1.d.re, .int .i64 (gAdj m).1.d.im, .int .i64 (gAdj m).1.d.den], .bool (gAdj m).2]) ?_ rfl ?_
    · exact Eq.trans (results_cell_mid2 rfl _ _ (w.heap.size + 1) [.int .i64 (gAdj m).1.a.re, .int .i64 (gAdj m).1.a.im, .int .i64 (gAdj m).1.a.den, .int .i64 (gAdj m).1.b.re, .int .i64 (gAdj m).1.b.im, .int .i64 (gAdj m).1.b.den, .int .i64 (gAdj m).1.c.re, .int .i64 (gAdj m).1.c.im, .int .i64 (gAdj m).1.c.den, .int .i64 (gAdj m).1.d.re, .int .i64 (gAdj m).1.d.im, .int .i64 (gAdj m).1.d.den] _ (by rfl) (World.rangeAt_setCells_same w5 (w.heap.size + 1) 0 [.int .i64 (gAdj m).1.a.re, .int .i64 (gAdj m).1.a.im, .int .i64 (gAdj m).1.a.den, .int .i64 (gAdj m).1.b.re, .int .i64 (gAdj m).1.b.im, .int .i64 (gAdj m).1.b.den, .int .i64 (gAdj m).1.c.re, .int .i64 (gAdj m).1.c.im, .int .i64 (gAdj m).1.c.den, .int .i64 (gAdj m).1.d.re, .int .i64 (gAdj m).1.d.im, .int .i64 (gAdj m).1.d.den] HR.out.there) Tryd.underlying41 rfl (by kernel_rfl)) rfl
    · exact ⟨rfl, setCells_below (w.heap.size + 1) [.int .i64 (gAdj m).1.a.re, .int .i64 (gAdj m).1.a.im, .int .i64 (gAdj m).1.a.den, .int .i64 (gAdj m).1.b.re, .int .i64 (gAdj m).1.b.im, .int .i64 (gAdj m).1.b.den, .int .i64 (gAdj m).1.c.re, .int .i64 (gAdj m).1.c.im, .int .i64 (gAdj m).1.c.den, .int .i64 (gAdj m).1.d.re, .int .i64 (gAdj m).1.d.im, .int .i64 (gAdj m).1.d.den] 0 HB.out (by omega)⟩
  cases h3 : (fMirror m.b).2
  · have HG : Hid (gAdj m = g4 (fMirror m.a).1 (fMirror m.c).1 (fMirror m.b).1 (fMirror m.d).1 false) := by show _ = _; rw [gAdj_fl (m := m) h1 h2 h3 rfl]; rfl
    go_enter Tryd.func106, Tryd.ntmps106
    go_wp2_with fail
    refine (spmirror_fr m.a _).mono ?_
    rintro e w1 ho
    obtain ⟨rfl, hb⟩ := ho.fn
    have kc0 := fun o => hb.cell (p := ⟨w.heap.size, o, none⟩) (by show w.heap.size < _; first | omega | (simp <;> omega))
    have kc1 := fun o => hb.cell (p := ⟨w.heap.size + 1, o, none⟩) (by show w.heap.size + 1 < _; first | omega | (simp <;> omega))
    have kf0 := fun o => hb.frozen (p := ⟨w.heap.size + 1, o, none⟩) (by show w.heap.size + 1 < _; first | omega | (simp <;> omega))
    have hz := hb.size
    (try simp at hz)
    have kl0 : w.heap.size < w1.heap.size := by omega
    have kn0 : ¬ w.heap.size = w1.heap.size := by omega
    have km0 : ¬ w1.heap.size = w.heap.size := by omega
    have kl1 : w.heap.size + 1 < w1.heap.size := by omega
    have kn1 : ¬ w.heap.size + 1 = w1.heap.size := by omega
    have km1 : ¬ w1.heap.size = w.heap.size + 1 := by omega
    have HB := Lib.hid (show Below w.heap.size w w1 from by (repeat' first | exact Below.refl _ _ | apply bl_alloc | apply bl_drewN | apply bl_drew | refine bl_trans ?_ (by assumption) | refine bl_set ?_ (by first | omega | (simp <;> omega)) _))
    have HR := Lib.hid ((show Room _ (w.heap.size + 1) 4 from (Room.new' (by simp) rfl)).below hb (by first | omega | (simp <;> omega)))
    clear ho hb
    go_wp2_with fail
    refine (spmirror_fr m.c _).mono ?_
    rintro e w2 ho
    obtain ⟨rfl, hb⟩ := ho.fn
    have kc0 := fun o => hb.cell (p := ⟨w.heap.size, o, none⟩) (by show w.heap.size < _; first | omega | (simp <;> omega))
    have kc1 := fun o => hb.cell (p := ⟨w.heap.size + 1, o, none⟩) (by show w.heap.size + 1 < _; first | omega | (simp <;> omega))
    have kc2 := fun o => hb.cell (p := ⟨w1.heap.size, o, none⟩) (by show w1.heap.size < _; first | omega | (simp <;> omega))
    have kf0 := fun o => hb.frozen (p := ⟨w.heap.size + 1, o, none⟩) (by show w.heap.size + 1 < _; first | omega | (simp <;> omega))
    have hz := hb.size
    (try simp at hz)
    have kl0 : w.heap.size < w2.heap.size := by omega
    have kn0 : ¬ w.heap.size = w2.heap.size := by omega
    have km0 : ¬ w2.heap.size = w.heap.size := by omega
    have kl1 : w.heap.size + 1 < w2.heap.size := by omega
    have kn1 : ¬ w.heap.size + 1 = w2.heap.size := by omega
    have km1 : ¬ w2.heap.size = w.heap.size + 1 := by omega
    have kl2 : w1.heap.size < w2.heap.size := by omega
    have kn2 : ¬ w1.heap.size = w2.heap.size := by omega
    have km2 : ¬ w2.heap.size = w1.heap.size := by omega
    have HB := Lib.hid (show Below w.heap.size w w2 from by exact HB.out.trans ((show Below _ _ _ from ((Below.refl _ _).alloc (by omega) _)).trans (hb.mono (by first | omega | (simp <;> omega)))))
    have HR := Lib.hid ((show Room _ (w.heap.size + 1) 4 from (HR.out.alloc (by omega) _)).below hb (by first | omega | (simp <;> omega)))
    clear ho hb
    go_wp2_with fail
    refine (spmirror_fr m.b _).mono ?_
    rintro e w3 ho
    obtain ⟨rfl, hb⟩ := ho.fn
    have kc0 := fun o => hb.cell (p := ⟨w.heap.size, o, none⟩) (by show w.heap.size < _; first | omega | (simp <;> omega))
    have kc1 := fun o => hb.cell (p := ⟨w.heap.size + 1, o, none⟩) (by show w.heap.size + 1 < _; first | omega | (simp <;> omega))
    have kc2 := fun o => hb.cell (p := ⟨w1.heap.size, o, none⟩) (by show w1.heap.size < _; first | omega | (simp <;> omega))
    have kc3 := fun o => hb.cell (p := ⟨w2.heap.size, o, none⟩) (by show w2.heap.size < _; first | omega | (simp <;> omega))
    have kf0 := fun o => hb.frozen (p := ⟨w.heap.size + 1, o, none⟩) (by show w.heap.size + 1 < _; first | omega | (simp <;> omega))
    have hz := hb.size
    (try simp at hz)
    have kl0 : w.heap.size < w3.heap.size := by omega
    have kn0 : ¬ w.heap.size = w3.heap.size := by omega
    have km0 : ¬ w3.heap.size = w.heap.size := by omega
    have kl1 : w.heap.size + 1 < w3.heap.size := by omega
    have kn1 : ¬ w.heap.size + 1 = w3.heap.size := by omega
    have km1 : ¬ w3.heap.size = w.heap.size + 1 := by omega
    have kl2 : w1.heap.size < w3.heap.size := by omega
    have kn2 : ¬ w1.heap.size = w3.heap.size := by omega
    have km2 : ¬ w3.heap.size = w1.heap.size := by omega
    have kl3 : w2.heap.size < w3.heap.size := by omega
    have kn3 : ¬ w2.heap.size = w3.heap.size := by omega
    have km3 : ¬ w3.heap.size = w2.heap.size := by omega
    have HB := Lib.hid (show Below w.heap.size w w3 from by exact HB.out.trans ((show Below _ _ _ from ((Below.refl _ _).alloc (by omega) _)).trans (hb.mono (by first | omega | (simp <;> omega)))))
    have HR := Lib.hid ((show Room _ (w.heap.size + 1) 4 from (HR.out.alloc (by omega) _)).below hb (by first | omega | (simp <;> omega)))
    clear ho hb
    go_wp2_with fail
    refine (spmirror_fr m.d _).mono ?_
    rintro e w4 ho
    obtain ⟨rfl, hb⟩ := ho.fn
    have kc0 := fun o => hb.cell (p := ⟨w.heap.size, o, none⟩) (by show w.heap.size < _; first | omega | (simp <;> omega))
    have kc1 := fun o => hb.cell (p := ⟨w.heap.size + 1, o, none⟩) (by show w.heap.size + 1 < _; first | omega | (simp <;> omega))
    have kc2 := fun o => hb.cell (p := ⟨w1.heap.size, o, none⟩) (by show w1.heap.size < _; first | omega | (simp <;> omega))
    have kc3 := fun o => hb.cell (p := ⟨w2.heap.size, o, none⟩) (by show w2.heap.size < _; first | omega | (simp <;> omega))
    have kc4 := fun o => hb.cell (p := ⟨w3.heap.size, o, none⟩) (by show w3.heap.size < _; first | omega | (simp <;> omega))
    have kf0 := fun o => hb.frozen (p := ⟨w.heap.size + 1, o, none⟩) (by show w.heap.size + 1 < _; first | omega | (simp <;> omega))
    have hz := hb.size
    (try simp at hz)
    have kl0 : w.heap.size < w4.heap.size := by omega
    have kn0 : ¬ w.heap.size = w4.heap.size := by omega
    have km0 : ¬ w4.heap.size = w.heap.size := by omega
    have kl1 : w.heap.size + 1 < w4.heap.size := by omega
    have kn1 : ¬ w.heap.size + 1 = w4.heap.size := by omega
    have km1 : ¬ w4.heap.size = w.heap.size + 1 := by omega
    have kl2 : w1.heap.size < w4.heap.size := by omega
    have kn2 : ¬ w1.heap.size = w4.heap.size := by omega
    have km2 : ¬ w4.heap.size = w1.heap.size := by omega
    have kl3 : w2.heap.size < w4.heap.size := by omega
    have kn3 : ¬ w2.heap.size = w4.heap.size := by omega
    have km3 : ¬ w4.heap.size = w2.heap.size := by omega
    have kl4 : w3.heap.size < w4.heap.size := by omega
    have kn4 : ¬ w3.heap.size = w4.heap.size := by omega
    have km4 : ¬ w4.heap.size = w3.heap.size := by omega
    have HB := Lib.hid (show Below w.heap.size w w4 from by exact HB.out.trans ((show Below _ _ _ from ((Below.refl _ _).alloc (by omega) _)).trans (hb.mono (by first | omega | (simp <;> omega)))))
    have HR := Lib.hid ((show Room _ (w.heap.size + 1) 4 from (HR.out.alloc (by omega) _)).below hb (by first | omega | (simp <;> omega)))
    clear ho hb
    go_wp2_with fail
    refine (l5Four_any _ _ _ _ _ _).mono ?_
    rintro e w5 ho
    rw [← HG.out] at ho
    obtain ⟨rfl, hb⟩ := ho.fn
    have kc0 := fun o => hb.cell (p := ⟨w.heap.size + 1, o, none⟩) (by show w.heap.size + 1 < _; first | omega | (simp <;> omega))
    have kf0 := fun o => hb.frozen (p := ⟨w.heap.size + 1, o, none⟩) (by show w.heap.size + 1 < _; first | omega | (simp <;> omega))
    have hz := hb.size
    (try simp at hz)
    have kl0 : w.heap.size + 1 < w5.heap.size := by omega
    have kn0 : ¬ w.heap.size + 1 = w5.heap.size := by omega
    have km0 : ¬ w5.heap.size = w.heap.size + 1 := by omega
    have HB := Lib.hid (show Below w.heap.size w w5 from by exact HB.out.trans ((show Below _ _ _ from ((Below.refl _ _).alloc (by omega) _)).trans (hb.mono (by first | omega | (simp <;> omega)))))
    have HR := Lib.hid ((show Room _ (w.heap.size + 1) 4 from (HR.out.alloc (by omega) _)).below hb (by first | omega | (simp <;> omega)))
    clear ho hb
    go_wp2
    refine bodyPost_ret (v := .tuple #[.agg #[.int .i64 (gAdj m).1.a.re, .int .i64 (gAdj m).1.a.im, .int .i64 (gAdj m).1.a.den, .int .i64 (gAdj m).1.b.re, .int .i64 (gAdj m).1.b.im, .int .i64 (gAdj m).1.b.den, .int .i64 (gAdj m).1.c.re, .int .i64 (gAdj m).1.c.im, .int .i64 (gAdj m).1.c.den, .int .i64 (gAdj m).1.d.re, .int .i64 (gAdj m).1.d.im, .int .i64 (gAdj m).1.d.den], .bool (gAdj m).2]) ?_ rfl ?_
    · exact Eq.trans (results_cell_mid2 rfl _ _ (w.heap.size + 1) [.int .i64 (gAdj m).1.a.re, .int .i64 (gAdj m).1.a.im, .int .i64 (gAdj m).1.a.den, .int .i64 (gAdj m).1.b.re, .int .i64 (gAdj m).1.b.im, .int .i64 (gAdj m).1.b.den, .int .i64 (gAdj m).1.c.re, .int .i64 (gAdj m).1.c.im, .int .i64 (gAdj m).1.c.den, .int .i64 (gAdj m).1.d.re, .int .i64 (gAdj m).1.d.im, .int .i64 (gAdj m).1.d.den] _ (by rfl) (World.rangeAt_setCells_same w5 (w.heap.size + 1) 0 [.int .i64 (gAdj m).1.a.re, .int .i64 (gAdj m).1.a.im, .int .i64 (gAdj m).1.a.den, .int .i64 (gAdj m).1.b.re, .int .i64 (gAdj m).1.b.im, .int .i64 (gAdj m).1.b.den, .int .i64 (gAdj m).1.c.re, .int .i64 (gAdj m).1.c.im, .int .i64 (gAdj m).1.c.den, .int .i64 (gAdj m).1.d.re, .int .i64 (gAdj m).1.d.im, .int .i64 (gAdj m).1.d.den] HR.out.there) Tryd.underlying41 rfl (by kernel_rfl)) rfl
    · exact ⟨rfl, setCells_below (w.heap.size + 1) [.int .i64 (gAdj m).1.a.re, .int .i64 (gAdj m).1.a.im, .int .i64 (gAdj m).1.a.den, .int .i64 (gAdj m).1.b.re, .int .i64 (gAdj m).1.b.im, .int .i64 (gAdj m).1.b.den, .int .i64 (gAdj m).1.c.re, .int .i64 (gAdj m).1.c.im, .int .i64 (gAdj m).1.c.den, .int .i64 (gAdj m).1.d.re, .int .i64 (gAdj m).1.d.im, .int .i64 (gAdj m).1.d.den] 0 HB.out (by omega)⟩
  cases h4 : (fMirror m.d).2
  · have HG : Hid (gAdj m = g4 (fMirror m.a).1 (fMirror m.c).1 (fMirror m.b).1 (fMirror m.d).1 false) := by show _ = _; rw [gAdj_fl (m := m) h1 h2 h3 h4]; rfl
    go_enter Tryd.func106, Tryd.ntmps106
    go_wp2_with fail
    refine (spmirror_fr m.a _).mono ?_
    rintro e w1 ho
    obtain ⟨rfl, hb⟩ := ho.fn
    have kc0 := fun o => hb.cell (p := ⟨w.heap.size, o, none⟩) (by show w.heap.size < _; first | omega | (simp <;> omega))
    have kc1 := fun o => hb.cell (p := ⟨w.heap.size + 1, o, none⟩) (by show w.heap.size + 1 < _; first | omega | (simp <;> omega))
    have kf0 := fun o => hb.frozen (p := ⟨w.heap.size + 1, o, none⟩) (by show w.heap.size + 1 < _; first | omega | (simp <;> omega))
    have hz := hb.size
    (try simp at hz)
    have kl0 : w.heap.size < w1.heap.size := by omega
    have kn0 : ¬ w.heap.size = w1.heap.size := by omega
    have km0 : ¬ w1.heap.size = w.heap.size := by omega
    have kl1 : w.heap.size + 1 < w1.heap.size := by omega
    have kn1 : ¬ w.heap.size + 1 = w1.heap.size := by omega
    have km1 : ¬ w1.heap.size = w.heap.size + 1 := by omega
    have HB := Lib.hid (show Below w.heap.size w w1 from by (repeat' first | exact Below.refl _ _ | apply bl_alloc | apply bl_drewN | apply bl_drew | refine bl_trans ?_ (by assumption) | refine bl_set ?_ (by first | omega | (simp <;> omega)) _))
    have HR := Lib.hid ((show Room _ (w.heap.size + 1) 4 from (Room.new' (by simp) rfl)).below hb (by first | omega | (simp <;> omega)))
    clear ho hb
    go_wp2_with fail
    refine (spmirror_fr m.c _).mono ?_
    rintro e w2 ho
    obtain ⟨rfl, hb⟩ := ho.fn
    have kc0 := fun o => hb.cell (p := ⟨w.heap.size, o, none⟩) (by show w.heap.size < _; first | omega | (simp <;> omega))
    have kc1 := fun o => hb.cell (p := ⟨w.heap.size + 1, o, none⟩) (by show w.heap.size + 1 < _; first | omega | (simp <;> omega))
    have kc2 := fun o => hb.cell (p := ⟨w1.heap.size, o, none⟩) (by show w1.heap.size < _; first | omega | (simp <;> omega))
    have kf0 := fun o => hb.frozen (p := ⟨w.heap.size + 1, o, none⟩) (by show w.heap.size + 1 < _; first | omega | (simp <;> omega))
    have hz := hb.size
    (try simp at hz)
    have kl0 : w.heap.size < w2.heap.size := by omega
    have kn0 : ¬ w.heap.size = w2.heap.size := by omega
    have km0 : ¬ w2.heap.size = w.heap.size := by omega
    have kl1 : w.heap.size + 1 < w2.heap.size := by omega
    have kn1 : ¬ w.heap.size + 1 = w2.heap.size := by omega
    have km1 : ¬ w2.heap.size = w.heap.size + 1 := by omega
    have kl2 : w1.heap.size < w2.heap.size := by omega
    have kn2 : ¬ w1.heap.size = w2.heap.size := by omega
    have km2 : ¬ w2.heap.size = w1.heap.size := by omega
    have HB := Lib.hid (show Below w.heap.size w w2 from by exact HB.out.trans ((show Below _ _ _ from ((Below.refl _ _).alloc (by omega) _)).trans (hb.mono (by first | omega | (simp <;> omega)))))
    have HR := Lib.hid ((show Room _ (w.heap.size + 1) 4 from (HR.out.alloc (by omega) _)).below hb (by first | omega | (simp <;> omega)))
    clear ho hb
    go_wp2_with fail
    refine (spmirror_fr m.b _).mono ?_
    rintro e w3 ho
    obtain ⟨rfl, hb⟩ := ho.fn
    have kc0 := fun o => hb.cell (p := ⟨w.heap.size, o, none⟩) (by show w.heap.size < _; first | omega | (simp <;> omega))
    have kc1 := fun o => hb.cell (p := ⟨w.heap.size + 1, o, none⟩) (by show w.heap.size + 1 < _; first | omega | (simp <;> omega))
    have kc2 := fun o => hb.cell (p := ⟨w1.heap.size, o, none⟩) (by show w1.heap.size < _; first | omega | (simp <;> omega))
    have kc3 := fun o => hb.cell (p := ⟨w2.heap.size, o, none⟩) (by show w2.heap.size < _; first | omega | (simp <;> omega))
    have kf0 := fun o => hb.frozen (p := ⟨w.heap.size + 1, o, none⟩) (by show w.heap.size + 1 < _; first | omega | (simp <;> omega))
    have hz := hb.size
    (try simp at hz)
    have kl0 : w.heap.size < w3.heap.size := by omega
    have kn0 : ¬ w.heap.size = w3.heap.size := by omega
    have km0 : ¬ w3.heap.size = w.heap.size := by omega
    have kl1 : w.heap.size + 1 < w3.heap.size := by omega
    have kn1 : ¬ w.heap.size + 1 = w3.heap.size := by omega
    have km1 : ¬ w3.heap.size = w.heap.size + 1 := by omega
    have kl2 : w1.heap.size < w3.heap.size := by omega
    have kn2 : ¬ w1.heap.size = w3.heap.size := by omega
    have km2 : ¬ w3.heap.size = w1.heap.size := by omega
    have kl3 : w2.heap.size < w3.heap.size := by omega
    have kn3 : ¬ w2.heap.size = w3.heap.size := by omega
    have km3 : ¬ w3.heap.size = w2.heap.size := by omega
    have HB := Lib.hid (show Below w.heap.size w w3 from by exact HB.out.trans ((show Below _ _ _ from ((Below.refl _ _).alloc (by omega) _)).trans (hb.mono (by first | omega | (simp <;> omega)))))
    have HR := Lib.hid ((show Room _ (w.heap.size + 1) 4 from (HR.out.alloc (by omega) _)).below hb (by first | omega | (simp <;> omega)))
    clear ho hb
    go_wp2_with fail
    refine (spmirror_fr m.d _).mono ?_
    rintro e w4 ho
    obtain ⟨rfl, hb⟩ := ho.fn
    have kc0 := fun o => hb.cell (p := ⟨w.heap.size, o, none⟩) (by show w.heap.size < _; first | omega | (simp <;> omega))
    have kc1 := fun o => hb.cell (p := ⟨w.heap.size + 1, o, none⟩) (by show w.heap.size + 1 < _; first | omega | (simp <;> omega))
    have kc2 := fun o => hb.cell (p := ⟨w1.heap.size, o, none⟩) (by show w1.heap.size < _; first | omega | (simp <;> omega))
    have kc3 := fun o => hb.cell (p := ⟨w2.heap.size, o, none⟩) (by show w2.heap.size < _; first | omega | (simp <;> omega))
    have kc4 := fun o => hb.cell (p := ⟨w3.heap.size, o, none⟩) (by show w3.heap.size < _; first | omega | (simp <;> omega))
    have kf0 := fun o => hb.frozen (p := ⟨w.heap.size + 1, o, none⟩) (by show w.heap.size + 1 < _; first | omega | (simp <;> omega))
    have hz := hb.size
    (try simp at hz)
    have kl0 : w.heap.size < w4.heap.size := by omega
    have kn0 : ¬ w.heap.size = w4.heap.size := by omega
    have km0 : ¬ w4.heap.size = w.heap.size := by omega
    have kl1 : w.heap.size + 1 < w4.heap.size := by omega
    have kn1 : ¬ w.heap.size + 1 = w4.heap.size := by omega
    have km1 : ¬ w4.heap.size = w.heap.size + 1 := by omega
    have kl2 : w1.heap.size < w4.heap.size := by omega
    have kn2 : ¬ w1.heap.size = w4.heap.size := by omega
    have km2 : ¬ w4.heap.size = w1.heap.size := by omega
    have kl3 : w2.heap.size < w4.heap.size := by omega
    have kn3 : ¬ w2.heap.size = w4.heap.size := by omega
    have km3 : ¬ w4.heap.size = w2.heap.size := by omega
    have kl4 : w3.heap.size < w4.heap.size := by omega
    have kn4 : ¬ w3.heap.size = w4.heap.size := by omega
    have km4 : ¬ w4.heap.size = w3.heap.size := by omega
    have HB := Lib.hid (show Below w.heap.size w w4 from by exact HB.out.trans ((show Below _ _ _ from ((Below.refl _ _).alloc (by omega) _)).trans (hb.mono (by first | omega | (simp <;> omega)))))
    have HR := Lib.hid ((show Room _ (w.heap.size + 1) 4 from (HR.out.alloc (by omega) _)).below hb (by first | omega | (simp <;> omega)))
    clear ho hb
    go_wp2_with fail
    refine (l5Four_any _ _ _ _ _ _).mono ?_
    rintro e w5 ho
    rw [← HG.out] at ho
    obtain ⟨rfl, hb⟩ := ho.fn
    have kc0 := fun o => hb.cell (p := ⟨w.heap.size + 1, o, none⟩) (by show w.heap.size + 1 < _; first | omega | (simp <;> omega))
    have kf0 := fun o => hb.frozen (p := ⟨w.heap.size + 1, o, none⟩) (by show w.heap.size + 1 < _; first | omega | (simp <;> omega))
    have hz := hb.size
    (try simp at hz)
    have kl0 : w.heap.size + 1 < w5.heap.size := by omega
    have kn0 : ¬ w.heap.size + 1 = w5.heap.size := by omega
    have km0 : ¬ w5.heap.size = w.heap.size + 1 := by omega
    have HB := Lib.hid (show Below w.heap.size w w5 from by exact HB.out.trans ((show Below _ _ _ from ((Below.refl _ _).alloc (by omega) _)).trans (hb.mono (by first | omega | (simp <;> omega)))))
    have HR := Lib.hid ((show Room _ (w.heap.size + 1) 4 from (HR.out.alloc (by omega) _)).below hb (by first | omega | (simp <;> omega)))
    clear ho hb
    go_wp2
    refine bodyPost_ret (v := .tuple #[.agg #[.int .i64 (gAdj m).1.a.re, .int .i64 (gAdj m).1.a.im, .int .i64 (gAdj m).1.a.den, .int .i64 (gAdj m).1.b.re, .int .i64 (gAdj m).1.b.im, .int .i64 (gAdj m).1.b.den, .int .i64 (gAdj m).1.c.re, .int .i64 (gAdj m).1.c.im, .int .i64 (gAdj m).1.c.den, .int .i64 (gAdj m).1.d.re, .int .i64 (gAdj m).1.d.im, .int .i64 (gAdj m).1.d.den], .bool (gAdj m).2]) ?_ rfl ?_
    · exact Eq.trans (results_cell_mid2 rfl _ _ (w.heap.size + 1) [.int .i64 (gAdj m).1.a.re, .int .i64 (gAdj m).1.a.im, .int .i64 (gAdj m).1.a.den, .int .i64 (gAdj m).1.b.re, .int .i64 (gAdj m).1.b.im, .int .i64 (gAdj m).1.b.den, .int .i64 (gAdj m).1.c.re, .int .i64 (gAdj m).1.c.im, .int .i64 (gAdj m).1.c.den, .int .i64 (gAdj m).1.d.re, .int .i64 (gAdj m).1.d.im, .int .i64 (gAdj m).1.d.den] _ (by rfl) (World.rangeAt_setCells_same w5 (w.heap.size + 1) 0 [.int .i64 (gAdj m).1.a.re, .int .i64 (gAdj m).1.a.im, .int .i64 (gAdj m).1.a.den, .int .i64 (gAdj m).1.b.re, .int .i64 (gAdj m).1.b.im, .int .i64 (gAdj m).1.b.den, .int .i64 (gAdj m).1.c.re, .int .i64 (gAdj m).1.c.im, .int .i64 (gAdj m).1.c.den, .int .i64 (gAdj m).1.d.re, .int .i64 (gAdj m).1.d.im, .int .i64 (gAdj m).1.d.den] HR.out.there) Tryd.underlying41 rfl (by kernel_rfl)) rfl
    · exact ⟨rfl, setCells_below (w.heap.size + 1) [.int .i64 (gAdj m).1.a.re, .int .i64 (gAdj m).1.a.im, .int .i64 (gAdj m).1.a.den, .int .i64 (gAdj m).1.b.re, .int .i64 (gAdj m).1.b.im, .int .i64 (gAdj m).1.b.den, .int .i64 (gAdj m).1.c.re, .int .i64 (gAdj m).1.c.im, .int .i64 (gAdj m).1.c.den, .int .i64 (gAdj m).1.d.re, .int .i64 (gAdj m).1.d.im, .int .i64 (gAdj m).1.d.den] 0 HB.out (by omega)⟩
  · have HG : Hid (gAdj m = g4 (fMirror m.a).1 (fMirror m.c).1 (fMirror m.b).1 (fMirror m.d).1 true) := by show _ = _; rw [gAdj_fl (m := m) h1 h2 h3 h4]; rfl
    go_enter Tryd.func106, Tryd.ntmps106
    go_wp2_with fail
    refine (spmirror_fr m.a _).mono ?_
    rintro e w1 ho
    obtain ⟨rfl, hb⟩ := ho.fn
    have kc0 := fun o => hb.cell (p := ⟨w.heap.size, o, none⟩) (by show w.heap.size < _; first | omega | (simp <;> omega))
    have kc1 := fun o => hb.cell (p := ⟨w.heap.size + 1, o, none⟩) (by show w.heap.size + 1 < _; first | omega | (simp <;> omega))
    have kf0 := fun o => hb.frozen (p := ⟨w.heap.size + 1, o, none⟩) (by show w.heap.size + 1 < _; first | omega | (simp <;> omega))
    have hz := hb.size
    (try simp at hz)
    have kl0 : w.heap.size < w1.heap.size := by omega
    have kn0 : ¬ w.heap.size = w1.heap.size := by omega
    have km0 : ¬ w1.heap.size = w.heap.size := by omega
    have kl1 : w.heap.size + 1 < w1.heap.size := by omega
    have kn1 : ¬ w.heap.size + 1 = w1.heap.size := by omega
    have km1 : ¬ w1.heap.size = w.heap.size + 1 := by omega
    have HB := Lib.hid (show Below w.heap.size w w1 from by (repeat' first | exact Below.refl _ _ | apply bl_alloc | apply bl_drewN | apply bl_drew | refine bl_trans ?_ (by assumption) | refine bl_set ?_ (by first | omega | (simp <;> omega)) _))
    have HR := Lib.hid ((show Room _ (w.heap.size + 1) 4 from (Room.new' (by simp) rfl)).below hb (by first | omega | (simp <;> omega)))
    clear ho hb
    go_wp2_with fail
    refine (spmirror_fr m.c _).mono ?_
    rintro e w2 ho
    obtain ⟨rfl, hb⟩ := ho.fn
    have kc0 := fun o => hb.cell (p := ⟨w.heap.size, o, none⟩) (by show w.heap.size < _; first | omega | (simp <;> omega))
    have kc1 := fun o => hb.cell (p := ⟨w.heap.size + 1, o, none⟩) (by show w.heap.size + 1 < _; first | omega | (simp <;> omega))
    have kc2 := fun o => hb.cell (p := ⟨w1.heap.size, o, none⟩) (by show w1.heap.size < _; first | omega | (simp <;> omega))
    have kf0 := fun o => hb.frozen (p := ⟨w.heap.size + 1, o, none⟩) (by show w.heap.size + 1 < _; first | omega | (simp <;> omega))
    have hz := hb.size
    (try simp at hz)
    have kl0 : w.heap.size < w2.heap.size := by omega
    have kn0 : ¬ w.heap.size = w2.heap.size := by omega
    have km0 : ¬ w2.heap.size = w.heap.size := by omega
    have kl1 : w.heap.size + 1 < w2.heap.size := by omega
    have kn1 : ¬ w.heap.size + 1 = w2.heap.size := by omega
    have km1 : ¬ w2.heap.size = w.heap.size + 1 := by omega
    have kl2 : w1.heap.size < w2.heap.size := by omega
    have kn2 : ¬ w1.heap.size = w2.heap.size := by omega
    have km2 : ¬ w2.heap.size = w1.heap.size := by omega
    have HB := Lib.hid (show Below w.heap.size w w2 from by exact HB.out.trans ((show Below _ _ _ from ((Below.refl _ _).alloc (by omega) _)).trans (hb.mono (by first | omega | (simp <;> omega)))))
    have HR := Lib.hid ((show Room _ (w.heap.size + 1) 4 from (HR.out.alloc (by omega) _)).below hb (by first | omega | (simp <;> omega)))
    clear ho hb
    go_wp2_with fail
    refine (spmirror_fr m.b _).mono ?_
    rintro e w3 ho
    obtain ⟨rfl, hb⟩ := ho.fn
    have kc0 := fun o => hb.cell (p := ⟨w.heap.size, o, none⟩) (by show w.heap.size < _; first | omega | (simp <;> omega))
    have kc1 := fun o => hb.cell (p := ⟨w.heap.size + 1, o, none⟩) (by show w.heap.size + 1 < _; first | omega | (simp <;> omega))
    have kc2 := fun o => hb.cell (p := ⟨w1.heap.size, o, none⟩) (by show w1.heap.size < _; first | omega | (simp <;> omega))
    have kc3 := fun o => hb.cell (p := ⟨w2.heap.size, o, none⟩) (by show w2.heap.size < _; first | omega | (simp <;> omega))
    have kf0 := fun o => hb.frozen (p := ⟨w.heap.size + 1, o, none⟩) (by show w.heap.size + 1 < _; first | omega | (simp <;> omega))
    have hz := hb.size
    (try simp at hz)
    have kl0 : w.heap.size < w3.heap.size := by omega
    have kn0 : ¬ w.heap.size = w3.heap.size := by omega
    have km0 : ¬ w3.heap.size = w.heap.size := by omega
    have kl1 : w.heap.size + 1 < w3.heap.size := by omega
    have kn1 : ¬ w.heap.size + 1 = w3.heap.size := by omega
    have km1 : ¬ w3.heap.size = w.heap.size + 1 := by omega
    have kl2 : w1.heap.size < w3.heap.size := by omega
    have kn2 : ¬ w1.heap.size = w3.heap.size := by omega
    have km2 : ¬ w3.heap.size = w1.heap.size := by omega
    have kl3 : w2.heap.size < w3.heap.size := by omega
    have kn3 : ¬ w2.heap.size = w3.heap.size := by omega
    have km3 : ¬ w3.heap.size = w2.heap.size := by omega
    have HB := Lib.hid (show Below w.heap.size w w3 from by exact HB.out.trans ((show Below _ _ _ from ((Below.refl _ _).alloc (by omega) _)).trans (hb.mono (by first | omega | (simp <;> omega)))))
    have HR := Lib.hid ((show Room _ (w.heap.size + 1) 4 from (HR.out.alloc (by omega) _)).below hb (by first | omega | (simp <;> omega)))
    clear ho hb
    go_wp2_with fail
    refine (spmirror_fr m.d _).mono ?_
    rintro e w4 ho
    obtain ⟨rfl, hb⟩ := ho.fn
    have kc0 := fun o => hb.cell (p := ⟨w.heap.size, o, none⟩) (by show w.heap.size < _; first | omega | (simp <;> omega))
    have kc1 := fun o => hb.cell (p := ⟨w.heap.size + 1, o, none⟩) (by show w.heap.size + 1 < _; first | omega | (simp <;> omega))
    have kc2 := fun o => hb.cell (p := ⟨w1.heap.size, o, none⟩) (by show w1.heap.size < _; first | omega | (simp <;> omega))
    have kc3 := fun o => hb.cell (p := ⟨w2.heap.size, o, none⟩) (by show w2.heap.size < _; first | omega | (simp <;> omega))
    have kc4 := fun o => hb.cell (p := ⟨w3.heap.size, o, none⟩) (by show w3.heap.size < _; first | omega | (simp <;> omega))
    have kf0 := fun o => hb.frozen (p := ⟨w.heap.size + 1, o, none⟩) (by show w.heap.size + 1 < _; first | omega | (simp <;> omega))
    have hz := hb.size
    (try simp at hz)
    have kl0 : w.heap.size < w4.heap.size := by omega
    have kn0 : ¬ w.heap.size = w4.heap.size := by omega
    have km0 : ¬ w4.heap.size = w.heap.size := by omega
    have kl1 : w.heap.size + 1 < w4.heap.size := by omega
    have kn1 : ¬ w.heap.size + 1 = w4.heap.size := by omega
    have km1 : ¬ w4.heap.size = w.heap.size + 1 := by omega
    have kl2 : w1.heap.size < w4.heap.size := by omega
    have kn2 : ¬ w1.heap.size = w4.heap.size := by omega
    have km2 : ¬ w4.heap.size = w1.heap.size := by omega
    have kl3 : w2.heap.size < w4.heap.size := by omega
    have kn3 : ¬ w2.heap.size = w4.heap.size := by omega
    have km3 : ¬ w4.heap.size = w2.heap.size := by omega
    have kl4 : w3.heap.size < w4.heap.size := by omega
    have kn4 : ¬ w3.heap.size = w4.heap.size := by omega
    have km4 : ¬ w4.heap.size = w3.heap.size := by omega
    have HB := Lib.hid (show Below w.heap.size w w4 from by exact HB.out.trans ((show Below _ _ _ from ((Below.refl _ _).alloc (by omega) _)).trans (hb.mono (by first | omega | (simp <;> omega)))))
    have HR := Lib.hid ((show Room _ (w.heap.size + 1) 4 from (HR.out.alloc (by omega) _)).below hb (by first | omega | (simp <;> omega)))
    clear ho hb
    go_wp2_with fail
    refine (l5Four_any _ _ _ _ _ _).mono ?_
    rintro e w5 ho
    rw [← HG.out] at ho
    obtain ⟨rfl, hb⟩ := ho.fn
    have kc0 := fun o => hb.cell (p := ⟨w.heap.size + 1, o, none⟩) (by show w.heap.size + 1 < _; first | omega | (simp <;> omega))
    have kf0 := fun o => hb.frozen (p := ⟨w.heap.size + 1, o, none⟩) (by show w.heap.size + 1 < _; first | omega | (simp <;> omega))
    have hz := hb.size
    (try simp at hz)
    have kl0 : w.heap.size + 1 < w5.heap.size := by omega
    have kn0 : ¬ w.heap.size + 1 = w5.heap.size := by omega
    have km0 : ¬ w5.heap.size = w.heap.size + 1 := by omega
    have HB := Lib.hid (show Below w.heap.size w w5 from by exact HB.out.trans ((show Below _ _ _ from ((Below.refl _ _).alloc (by omega) _)).trans (hb.mono (by first | omega | (simp <;> omega)))))
    have HR := Lib.hid ((show Room _ (w.heap.size + 1) 4 from (HR.out.alloc (by omega) _)).below hb (by first | omega | (simp <;> omega)))
    clear ho hb
    go_wp2
    refine bodyPost_ret (v := .tuple #[.agg #[.int .i64 (gAdj m).1.a.re, .int .i64 (gAdj m).1.a.im, .int .i64 (gAdj m).1.a.den, .int .i64 (gAdj m).1.b.re, .int .i64 (gAdj m).1.b.im, .int .i64 (gAdj m).1.b.den, .int .i64 (gAdj m).1.c.re, .int .i64 (gAdj m).1.c.im, .int .i64 (gAdj m).1.c.den, .int .i64 (gAdj m).1.d.re, .int .i64 (gAdj m).1.d.im, .int .i64 (gAdj m).1.d.den], .bool (gAdj m).2]) ?_ rfl ?_
    · exact Eq.trans (results_cell_mid2 rfl _ _ (w.heap.size + 1) [.int .i64 (gAdj m).1.a.re, .int .i64 (gAdj m).1.a.im, .int .i64 (gAdj m).1.a.den, .int .i64 (gAdj m).1.b.re, .int .i64 (gAdj m).1.b.im, .int .i64 (gAdj m).1.b.den, .int .i64 (gAdj m).1.c.re, .int .i64 (gAdj m).1.c.im, .int .i64 (gAdj m).1.c.den, .int .i64 (gAdj m).1.d.re, .int .i64 (gAdj m).1.d.im, .int .i64 (gAdj m).1.d.den] _ (by rfl) (World.rangeAt_setCells_same w5 (w.heap.size + 1) 0 [.int .i64 (gAdj m).1.a.re, .int .i64 (gAdj m).1.a.im, .int .i64 (gAdj m).1.a.den, .int .i64 (gAdj m).1.b.re, .int .i64 (gAdj m).1.b.im, .int .i64 (gAdj m).1.b.den, .int .i64 (gAdj m).1.c.re, .int .i64 (gAdj m).1.c.im, .int .i64 (gAdj m).1.c.den, .int .i64 (gAdj m).1.d.re, .int .i64 (gAdj m).1.d.im, .int .i64 (gAdj m).1.d.den] HR.out.there) Tryd.underlying41 rfl (by kernel_rfl)) rfl
    · exact ⟨rfl, setCells_below (w.heap.size + 1) [.int .i64 (gAdj m).1.a.re, .int .i64 (gAdj m).1.a.im, .int .i64 (gAdj m).1.a.den, .int .i64 (gAdj m).1.b.re, .int .i64 (gAdj m).1.b.im, .int .i64 (gAdj m).1.b.den, .int .i64 (gAdj m).1.c.re, .int .i64 (gAdj m).1.c.im, .int .i64 (gAdj m).1.c.den, .int .i64 (gAdj m).1.d.re, .int .i64 (gAdj m).1.d.im, .int .i64 (gAdj m).1.d.den] 0 HB.out (by omega)⟩
end Go.Proofs.YtmcokdiopcpifaaDoor
