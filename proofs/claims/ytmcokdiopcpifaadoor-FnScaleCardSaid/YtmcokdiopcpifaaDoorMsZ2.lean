/- Contracts: filters. -/
import Derived.Test.YtmcokdiopcpifaaDoorMsG10
set_option maxRecDepth 100000
namespace Go.Proofs.YtmcokdiopcpifaaDoor
open Go.RowKit Pol
def gFil (p q : Int) : M4 × Bool := if dirB p q = true then g4 (fTimes (dC p q) (dC p q)).1 (fTimes (dC p q) (dS p q)).1 (fTimes (dC p q) (dS p q)).1 (fTimes (dS p q) (dS p q)).1 ((fTimes (dC p q) (dC p q)).2 && (fTimes (dC p q) (dS p q)).2 && (fTimes (dS p q) (dS p q)).2) else (m4z, false)
theorem gFil_no1 {p q : Int} (h : dirB p q = false) : gFil p q = (m4z, false) := by unfold gFil; rw [if_neg (by rw [h]; simp)]
theorem gFil_g {p q : Int} (h : dirB p q = true) : gFil p q = g4 (fTimes (dC p q) (dC p q)).1 (fTimes (dC p q) (dS p q)).1 (fTimes (dC p q) (dS p q)).1 (fTimes (dS p q) (dS p q)).1 ((fTimes (dC p q) (dC p q)).2 && (fTimes (dC p q) (dS p q)).2 && (fTimes (dS p q) (dS p q)).2) := by unfold gFil; rw [if_pos h]
set_option maxRecDepth 100000 in
set_option maxHeartbeats 8000000 in
theorem sfil_any (p q : Int) (w : World) :
    Calls Tryd.prog 138 #[.int .i64 p, .int .i64 q] w (M4Out (gFil p q) w) := by
  cases hd : dirB p q
  · have HD := Lib.hid hd
    have HG := Lib.hid (gFil_no1 hd); clear hd
    go_enter Tryd.func138, Tryd.ntmps138
    go_wp2_with fail
    refine (sdir_any p q _).mono ?_
    rintro e w1 ho
    obtain ⟨rfl, hb⟩ := ho.f HD.out
    have kc0 := fun o => hb.cell (p := ⟨w.heap.size, o, none⟩) (by show w.heap.size < _; first | omega | (simp <;> omega))
    have kf0 := fun o => hb.frozen (p := ⟨w.heap.size, o, none⟩) (by show w.heap.size < _; first | omega | (simp <;> omega))
    have hz := hb.size
    simp at hz
    have kl0 : w.heap.size < w1.heap.size := by omega
    have kn0 : ¬ w.heap.size = w1.heap.size := by omega
    have kn1 : ¬ w.heap.size = w1.heap.size + 1 := by omega
    have kn2 : ¬ w.heap.size = w1.heap.size + 1 + 1 := by omega
    have kn3 : ¬ w.heap.size = w1.heap.size + 2 := by omega
    have HR := Lib.hid (show Room w1 w.heap.size 4 from Room.below (Room.new' rfl rfl) hb (by simp))
    have HB := Lib.hid (show Below w.heap.size w w1 from by (repeat' first | exact Below.refl _ _ | apply bl_alloc | apply bl_drewN | apply bl_drew | refine bl_trans ?_ (by assumption) | refine bl_set ?_ (by first | omega | (simp <;> omega)) _))
    clear ho hb
    go_wp2
    refine bodyPost_ret (v := .tuple #[.agg #[.int .i64 0, .int .i64 0, .int .i64 0, .int .i64 0, .int .i64 0, .int .i64 0, .int .i64 0, .int .i64 0, .int .i64 0, .int .i64 0, .int .i64 0, .int .i64 0], .bool false]) ?_ rfl (M4Out.no HG.out ?_)
    · exact Eq.trans (results_cell_mid2 Tryd.results138 _ _ w.heap.size [.int .i64 0, .int .i64 0, .int .i64 0, .int .i64 0, .int .i64 0, .int .i64 0, .int .i64 0, .int .i64 0, .int .i64 0, .int .i64 0, .int .i64 0, .int .i64 0] _ (by rfl) (by ((repeat' first | (with_reducible refine World.rangeAt_setCells_same _ (w.heap.size) 0 [.int .i64 0, .int .i64 0, .int .i64 0, .int .i64 0, .int .i64 0, .int .i64 0, .int .i64 0, .int .i64 0, .int .i64 0, .int .i64 0, .int .i64 0, .int .i64 0] ?_) | (with_reducible refine World.rangeAt_alloc ?_ _) | (with_reducible refine (World.rangeAt_drew _ _ _ _).2 ?_)); first | exact HR.out.there | (have hh := fun W h => World.rangeAt_setCells_same W (w.heap.size) 0 [.int .i64 0, .int .i64 0, .int .i64 0, .int .i64 0, .int .i64 0, .int .i64 0, .int .i64 0, .int .i64 0, .int .i64 0, .int .i64 0, .int .i64 0, .int .i64 0] h; simp only [World.setCells, Nat.zero_add, Nat.reduceAdd] at hh; exact hh _ HR.out.there))) Tryd.underlying41 rfl (by kernel_rfl)) rfl
    · (repeat' first | (with_reducible exact HB.out) | with_reducible refine setCells_below _ _ _ ?_ (by first | omega | (simp <;> omega)) | with_reducible refine Below.setCell ?_ (by show _ ≤ _; first | omega | (simp <;> omega) | simp) _ | with_reducible refine Below.alloc ?_ (by first | omega | (simp <;> omega)) _ | with_reducible apply Below.drew)
  have HD := Lib.hid hd
  cases h1 : (fTimes (dC p q) (dC p q)).2
  · have HG : Hid (gFil p q = g4 (fTimes (dC p q) (dC p q)).1 (fTimes (dC p q) (dS p q)).1 (fTimes (dC p q) (dS p q)).1 (fTimes (dS p q) (dS p q)).1 false) := by show _ = _; rw [gFil_g hd]; simp [h1]
    clear hd
    go_enter Tryd.func138, Tryd.ntmps138
    go_wp2_with fail
    refine (sdir_any p q _).mono ?_
    rintro e w1 ho
    obtain ⟨rfl, hb⟩ := ho.t HD.out
    have kc0 := fun o => hb.cell (p := ⟨w.heap.size, o, none⟩) (by show w.heap.size < _; first | omega | (simp <;> omega))
    have kf0 := fun o => hb.frozen (p := ⟨w.heap.size, o, none⟩) (by show w.heap.size < _; first | omega | (simp <;> omega))
    have hz := hb.size
    simp at hz
    have kl0 : w.heap.size < w1.heap.size := by omega
    have kn0 : ¬ w.heap.size = w1.heap.size := by omega
    have kn1 : ¬ w.heap.size = w1.heap.size + 1 := by omega
    have kn2 : ¬ w.heap.size = w1.heap.size + 1 + 1 := by omega
    have kn3 : ¬ w.heap.size = w1.heap.size + 2 := by omega
    have HR := Lib.hid (show Room w1 w.heap.size 4 from Room.below (Room.new' rfl rfl) hb (by simp))
    have HB := Lib.hid (show Below w.heap.size w w1 from by (repeat' first | exact Below.refl _ _ | apply bl_alloc | apply bl_drewN | apply bl_drew | refine bl_trans ?_ (by assumption) | refine bl_set ?_ (by first | omega | (simp <;> omega)) _))
    clear ho hb
    go_wp2_with fail
    refine (sptimes_fr (dC p q) (dC p q) _).mono ?_
    rintro e w2 ho
    obtain ⟨rfl, hb⟩ := ho.fn
    have kc0 := fun o => hb.cell (p := ⟨w.heap.size, o, none⟩) (by show w.heap.size < _; first | omega | (simp <;> omega))
    have kc1 := fun o => hb.cell (p := ⟨w1.heap.size, o, none⟩) (by show w1.heap.size < _; first | omega | (simp <;> omega))
    have kc2 := fun o => hb.cell (p := ⟨w1.heap.size + 1, o, none⟩) (by show w1.heap.size + 1 < _; first | omega | (simp <;> omega))
    have kf0 := fun o => hb.frozen (p := ⟨w.heap.size, o, none⟩) (by show w.heap.size < _; first | omega | (simp <;> omega))
    have hz := hb.size
    (try simp at hz)
    have kl0 : w.heap.size < w2.heap.size := by omega
    have kn0 : ¬ w.heap.size = w2.heap.size := by omega
    have km0 : ¬ w2.heap.size = w.heap.size := by omega
    have kl1 : w1.heap.size < w2.heap.size := by omega
    have kn1 : ¬ w1.heap.size = w2.heap.size := by omega
    have km1 : ¬ w2.heap.size = w1.heap.size := by omega
    have kl2 : w1.heap.size + 1 < w2.heap.size := by omega
    have kn2 : ¬ w1.heap.size + 1 = w2.heap.size := by omega
    have km2 : ¬ w2.heap.size = w1.heap.size + 1 := by omega
    have HB := Lib.hid (show Below w.heap.size w w2 from by exact HB.out.trans ((show Below _ _ _ from (((Below.refl _ _).alloc (by omega) _).alloc (by simp; omega) _)).trans (hb.mono (by first | omega | (simp <;> omega)))))
    have HR := Lib.hid ((show Room _ (w.heap.size) 4 from ((HR.out.alloc (by omega) _).alloc (by simp; omega) _)).below hb (by first | omega | (simp <;> omega)))
    clear ho hb
    go_wp2_with fail
    refine (sptimes_fr (dC p q) (dS p q) _).mono ?_
    rintro e w3 ho
    obtain ⟨rfl, hb⟩ := ho.fn
    have kc0 := fun o => hb.cell (p := ⟨w.heap.size, o, none⟩) (by show w.heap.size < _; first | omega | (simp <;> omega))
    have kc1 := fun o => hb.cell (p := ⟨w1.heap.size, o, none⟩) (by show w1.heap.size < _; first | omega | (simp <;> omega))
    have kc2 := fun o => hb.cell (p := ⟨w1.heap.size + 1, o, none⟩) (by show w1.heap.size + 1 < _; first | omega | (simp <;> omega))
    have kc3 := fun o => hb.cell (p := ⟨w2.heap.size, o, none⟩) (by show w2.heap.size < _; first | omega | (simp <;> omega))
    have kf0 := fun o => hb.frozen (p := ⟨w.heap.size, o, none⟩) (by show w.heap.size < _; first | omega | (simp <;> omega))
    have hz := hb.size
    (try simp at hz)
    have kl0 : w.heap.size < w3.heap.size := by omega
    have kn0 : ¬ w.heap.size = w3.heap.size := by omega
    have km0 : ¬ w3.heap.size = w.heap.size := by omega
    have kl1 : w1.heap.size < w3.heap.size := by omega
    have kn1 : ¬ w1.heap.size = w3.heap.size := by omega
    have km1 : ¬ w3.heap.size = w1.heap.size := by omega
    have kl2 : w1.heap.size + 1 < w3.heap.size := by omega
    have kn2 : ¬ w1.heap.size + 1 = w3.heap.size := by omega
    have km2 : ¬ w3.heap.size = w1.heap.size + 1 := by omega
    have kl3 : w2.heap.size < w3.heap.size := by omega
    have kn3 : ¬ w2.heap.size = w3.heap.size := by omega
    have km3 : ¬ w3.heap.size = w2.heap.size := by omega
    have HB := Lib.hid (show Below w.heap.size w w3 from by exact HB.out.trans ((show Below _ _ _ from ((Below.refl _ _).alloc (by omega) _)).trans (hb.mono (by first | omega | (simp <;> omega)))))
    have HR := Lib.hid ((show Room _ (w.heap.size) 4 from (HR.out.alloc (by omega) _)).below hb (by first | omega | (simp <;> omega)))
    clear ho hb
    go_wp2_with fail
    refine (sptimes_fr (dS p q) (dS p q) _).mono ?_
    rintro e w4 ho
    obtain ⟨rfl, hb⟩ := ho.fn
    have kc0 := fun o => hb.cell (p := ⟨w.heap.size, o, none⟩) (by show w.heap.size < _; first | omega | (simp <;> omega))
    have kc1 := fun o => hb.cell (p := ⟨w1.heap.size, o, none⟩) (by show w1.heap.size < _; first | omega | (simp <;> omega))
    have kc2 := fun o => hb.cell (p := ⟨w1.heap.size + 1, o, none⟩) (by show w1.heap.size + 1 < _; first | omega | (simp <;> omega))
    have kc3 := fun o => hb.cell (p := ⟨w2.heap.size, o, none⟩) (by show w2.heap.size < _; first | omega | (simp <;> omega))
    have kc4 := fun o => hb.cell (p := ⟨w3.heap.size, o, none⟩) (by show w3.heap.size < _; first | omega | (simp <;> omega))
    have kf0 := fun o => hb.frozen (p := ⟨w.heap.size, o, none⟩) (by show w.heap.size < _; first | omega | (simp <;> omega))
    have hz := hb.size
    (try simp at hz)
    have kl0 : w.heap.size < w4.heap.size := by omega
    have kn0 : ¬ w.heap.size = w4.heap.size := by omega
    have km0 : ¬ w4.heap.size = w.heap.size := by omega
    have kl1 : w1.heap.size < w4.heap.size := by omega
    have kn1 : ¬ w1.heap.size = w4.heap.size := by omega
    have km1 : ¬ w4.heap.size = w1.heap.size := by omega
    have kl2 : w1.heap.size + 1 < w4.heap.size := by omega
    have kn2 : ¬ w1.heap.size + 1 = w4.heap.size := by omega
    have km2 : ¬ w4.heap.size = w1.heap.size + 1 := by omega
    have kl3 : w2.heap.size < w4.heap.size := by omega
    have kn3 : ¬ w2.heap.size = w4.heap.size := by omega
    have km3 : ¬ w4.heap.size = w2.heap.size := by omega
    have kl4 : w3.heap.size < w4.heap.size := by omega
    have kn4 : ¬ w3.heap.size = w4.heap.size := by omega
    have km4 : ¬ w4.heap.size = w3.heap.size := by omega
    have HB := Lib.hid (show Below w.heap.size w w4 from by exact HB.out.trans ((show Below _ _ _ from ((Below.refl _ _).alloc (by omega) _)).trans (hb.mono (by first | omega | (simp <;> omega)))))
    have HR := Lib.hid ((show Room _ (w.heap.size) 4 from (HR.out.alloc (by omega) _)).below hb (by first | omega | (simp <;> omega)))
    clear ho hb
    go_wp2_with fail
    refine (l5Four_any (fTimes (dC p q) (dC p q)).1 (fTimes (dC p q) (dS p q)).1 (fTimes (dC p q) (dS p q)).1 (fTimes (dS p q) (dS p q)).1 _ _).mono ?_
    rintro e w5 ho
    rw [← HG.out] at ho
    obtain ⟨rfl, hb⟩ := ho.fn
    have kc0 := fun o => hb.cell (p := ⟨w.heap.size, o, none⟩) (by show w.heap.size < _; first | omega | (simp <;> omega))
    have kf0 := fun o => hb.frozen (p := ⟨w.heap.size, o, none⟩) (by show w.heap.size < _; first | omega | (simp <;> omega))
    have hz := hb.size
    (try simp at hz)
    have kl0 : w.heap.size < w5.heap.size := by omega
    have kn0 : ¬ w.heap.size = w5.heap.size := by omega
    have km0 : ¬ w5.heap.size = w.heap.size := by omega
    have HB := Lib.hid (show Below w.heap.size w w5 from by exact HB.out.trans ((show Below _ _ _ from ((Below.refl _ _).alloc (by omega) _)).trans (hb.mono (by first | omega | (simp <;> omega)))))
    have HR := Lib.hid ((show Room _ (w.heap.size) 4 from (HR.out.alloc (by omega) _)).below hb (by first | omega | (simp <;> omega)))
    clear ho hb
    go_wp2
    refine bodyPost_ret (v := .tuple #[.agg #[.int .i64 (gFil p q).1.a.re, .int .i64 (gFil p q).1.a.im, .int .i64 (gFil p q).1.a.den, .int .i64 (gFil p q).1.b.re, .int .i64 (gFil p q).1.b.im, .int .i64 (gFil p q).1.b.den, .int .i64 (gFil p q).1.c.re, .int .i64 (gFil p q).1.c.im, .int .i64 (gFil p q).1.c.den, .int .i64 (gFil p q).1.d.re, .int .i64 (gFil p q).1.d.im, .int .i64 (gFil p q).1.d.den], .bool (gFil p q).2]) ?_ rfl (M4Out.self ?_)
    · exact Eq.trans (results_cell_mid2 Tryd.results138 _ _ w.heap.size [.int .i64 (gFil p q).1.a.re, .int .i64 (gFil p q).1.a.im, .int .i64 (gFil p q).1.a.den, .int .i64 (gFil p q).1.b.re, .int .i64 (gFil p q).1.b.im, .int .i64 (gFil p q).1.b.den, .int .i64 (gFil p q).1.c.re, .int .i64 (gFil p q).1.c.im, .int .i64 (gFil p q).1.c.den, .int .i64 (gFil p q).1.d.re, .int .i64 (gFil p q).1.d.im, .int .i64 (gFil p q).1.d.den] _ (by rfl) (by ((repeat' first | (with_reducible refine World.rangeAt_setCells_same _ (w.heap.size) 0 [.int .i64 (gFil p q).1.a.re, .int .i64 (gFil p q).1.a.im, .int .i64 (gFil p q).1.a.den, .int .i64 (gFil p q).1.b.re, .int .i64 (gFil p q).1.b.im, .int .i64 (gFil p q).1.b.den, .int .i64 (gFil p q).1.c.re, .int .i64 (gFil p q).1.c.im, .int .i64 (gFil p q).1.c.den, .int .i64 (gFil p q).1.d.re, .int .i64 (gFil p q).1.d.im, .int .i64 (gFil p q).1.d.den] ?_) | (with_reducible refine World.rangeAt_alloc ?_ _) | (with_reducible refine (World.rangeAt_drew _ _ _ _).2 ?_)); first | exact HR.out.there | (have hh := fun W h => World.rangeAt_setCells_same W (w.heap.size) 0 [.int .i64 (gFil p q).1.a.re, .int .i64 (gFil p q).1.a.im, .int .i64 (gFil p q).1.a.den, .int .i64 (gFil p q).1.b.re, .int .i64 (gFil p q).1.b.im, .int .i64 (gFil p q).1.b.den, .int .i64 (gFil p q).1.c.re, .int .i64 (gFil p q).1.c.im, .int .i64 (gFil p q).1.c.den, .int .i64 (gFil p q).1.d.re, .int .i64 (gFil p q).1.d.im, .int .i64 (gFil p q).1.d.den] h; simp only [World.setCells, Nat.zero_add, Nat.reduceAdd] at hh; exact hh _ HR.out.there))) Tryd.underlying41 rfl (by kernel_rfl)) rfl
    · (repeat' first | (with_reducible exact HB.out) | with_reducible refine setCells_below _ _ _ ?_ (by first | omega | (simp <;> omega)) | with_reducible refine Below.setCell ?_ (by show _ ≤ _; first | omega | (simp <;> omega) | simp) _ | with_reducible refine Below.alloc ?_ (by first | omega | (simp <;> omega)) _ | with_reducible apply Below.drew)
  cases h2 : (fTimes (dC p q) (dS p q)).2
  · have HG : Hid (gFil p q = g4 (fTimes (dC p q) (dC p q)).1 (fTimes (dC p q) (dS p q)).1 (fTimes (dC p q) (dS p q)).1 (fTimes (dS p q) (dS p q)).1 false) := by show _ = _; rw [gFil_g hd]; simp [h1, h2]
    clear hd
    go_enter Tryd.func138, Tryd.ntmps138
    go_wp2_with fail
    refine (sdir_any p q _).mono ?_
    rintro e w1 ho
    obtain ⟨rfl, hb⟩ := ho.t HD.out
    have kc0 := fun o => hb.cell (p := ⟨w.heap.size, o, none⟩) (by show w.heap.size < _; first | omega | (simp <;> omega))
    have kf0 := fun o => hb.frozen (p := ⟨w.heap.size, o, none⟩) (by show w.heap.size < _; first | omega | (simp <;> omega))
    have hz := hb.size
    simp at hz
    have kl0 : w.heap.size < w1.heap.size := by omega
    have kn0 : ¬ w.heap.size = w1.heap.size := by omega
    have kn1 : ¬ w.heap.size = w1.heap.size + 1 := by omega
    have kn2 : ¬ w.heap.size = w1.heap.size + 1 + 1 := by omega
    have kn3 : ¬ w.heap.size = w1.heap.size + 2 := by omega
    have HR := Lib.hid (show Room w1 w.heap.size 4 from Room.below (Room.new' rfl rfl) hb (by simp))
    have HB := Lib.hid (show Below w.heap.size w w1 from by (repeat' first | exact Below.refl _ _ | apply bl_alloc | apply bl_drewN | apply bl_drew | refine bl_trans ?_ (by assumption) | refine bl_set ?_ (by first | omega | (simp <;> omega)) _))
    clear ho hb
    go_wp2_with fail
    refine (sptimes_fr (dC p q) (dC p q) _).mono ?_
    rintro e w2 ho
    obtain ⟨rfl, hb⟩ := ho.fn
    have kc0 := fun o => hb.cell (p := ⟨w.heap.size, o, none⟩) (by show w.heap.size < _; first | omega | (simp <;> omega))
    have kc1 := fun o => hb.cell (p := ⟨w1.heap.size, o, none⟩) (by show w1.heap.size < _; first | omega | (simp <;> omega))
    have kc2 := fun o => hb.cell (p := ⟨w1.heap.size + 1, o, none⟩) (by show w1.heap.size + 1 < _; first | omega | (simp <;> omega))
    have kf0 := fun o => hb.frozen (p := ⟨w.heap.size, o, none⟩) (by show w.heap.size < _; first | omega | (simp <;> omega))
    have hz := hb.size
    (try simp at hz)
    have kl0 : w.heap.size < w2.heap.size := by omega
    have kn0 : ¬ w.heap.size = w2.heap.size := by omega
    have km0 : ¬ w2.heap.size = w.heap.size := by omega
    have kl1 : w1.heap.size < w2.heap.size := by omega
    have kn1 : ¬ w1.heap.size = w2.heap.size := by omega
    have km1 : ¬ w2.heap.size = w1.heap.size := by omega
    have kl2 : w1.heap.size + 1 < w2.heap.size := by omega
    have kn2 : ¬ w1.heap.size + 1 = w2.heap.size := by omega
    have km2 : ¬ w2.heap.size = w1.heap.size + 1 := by omega
    have HB := Lib.hid (show Below w.heap.size w w2 from by exact HB.out.trans ((show Below _ _ _ from (((Below.refl _ _).alloc (by omega) _).alloc (by simp; omega) _)).trans (hb.mono (by first | omega | (simp <;> omega)))))
    have HR := Lib.hid ((show Room _ (w.heap.size) 4 from ((HR.out.alloc (by omega) _).alloc (by simp; omega) _)).below hb (by first | omega | (simp <;> omega)))
    clear ho hb
    go_wp2_with fail
    refine (sptimes_fr (dC p q) (dS p q) _).mono ?_
    rintro e w3 ho
    obtain ⟨rfl, hb⟩ := ho.fn
    have kc0 := fun o => hb.cell (p := ⟨w.heap.size, o, none⟩) (by show w.heap.size < _; first | omega | (simp <;> omega))
    have kc1 := fun o => hb.cell (p := ⟨w1.heap.size, o, none⟩) (by show w1.heap.size < _; first | omega | (simp <;> omega))
    have kc2 := fun o => hb.cell (p := ⟨w1.heap.size + 1, o, none⟩) (by show w1.heap.size + 1 < _; first | omega | (simp <;> omega))
    have kc3 := fun o => hb.cell (p := ⟨w2.heap.size, o, none⟩) (by show w2.heap.size < _; first | omega | (simp <;> omega))
    have kf0 := fun o => hb.frozen (p := ⟨w.heap.size, o, none⟩) (by show w.heap.size < _; first | omega | (simp <;> omega))
    have hz := hb.size
    (try simp at hz)
    have kl0 : w.heap.size < w3.heap.size := by omega
    have kn0 : ¬ w.heap.size = w3.heap.size := by omega
    have km0 : ¬ w3.heap.size = w.heap.size := by omega
    have kl1 : w1.heap.size < w3.heap.size := by omega
    have kn1 : ¬ w1.heap.size = w3.heap.size := by omega
    have km1 : ¬ w3.heap.size = w1.heap.size := by omega
    have kl2 : w1.heap.size + 1 < w3.heap.size := by omega
    have kn2 : ¬ w1.heap.size + 1 = w3.heap.size := by omega
    have km2 : ¬ w3.heap.size = w1.heap.size + 1 := by omega
    have kl3 : w2.heap.size < w3.heap.size := by omega
    have kn3 : ¬ w2.heap.size = w3.heap.size := by omega
    have km3 : ¬ w3.heap.size = w2.heap.size := by omega
    have HB := Lib.hid (show Below w.heap.size w w3 from by exact HB.out.trans ((show Below _ _ _ from ((Below.refl _ _).alloc (by omega) _)).trans (hb.mono (by first | omega | (simp <;> omega)))))
    have HR := Lib.hid ((show Room _ (w.heap.size) 4 from (HR.out.alloc (by omega) _)).below hb (by first | omega | (simp <;> omega)))
    clear ho hb
    go_wp2_with fail
    refine (sptimes_fr (dS p q) (dS p q) _).mono ?_
    rintro e w4 ho
    obtain ⟨rfl, hb⟩ := ho.fn
    have kc0 := fun o => hb.cell (p := ⟨w.heap.size, o, none⟩) (by show w.heap.size < _; first | omega | (simp <;> omega))
    have kc1 := fun o => hb.cell (p := ⟨w1.heap.size, o, none⟩) (by show w1.heap.size < _; first | omega | (simp <;> omega))
    have kc2 := fun o => hb.cell (p := ⟨w1.heap.size + 1, o, none⟩) (by show w1.heap.size + 1 < _; first | omega | (simp <;> omega))
    have kc3 := fun o => hb.cell (p := ⟨w2.heap.size, o, none⟩) (by show w2.heap.size < _; first | omega | (simp <;> omega))
    have kc4 := fun o => hb.cell (p := ⟨w3.heap.size, o, none⟩) (by show w3.heap.size < _; first | omega | (simp <;> omega))
    have kf0 := fun o => hb.frozen (p := ⟨w.heap.size, o, none⟩) (by show w.heap.size < _; first | omega | (simp <;> omega))
    have hz := hb.size
    (try simp at hz)
    have kl0 : w.heap.size < w4.heap.size := by omega
    have kn0 : ¬ w.heap.size = w4.heap.size := by omega
    have km0 : ¬ w4.heap.size = w.heap.size := by omega
    have kl1 : w1.heap.size < w4.heap.size := by omega
    have kn1 : ¬ w1.heap.size = w4.heap.size := by omega
    have km1 : ¬ w4.heap.size = w1.heap.size := by omega
    have kl2 : w1.heap.size + 1 < w4.heap.size := by omega
    have kn2 : ¬ w1.heap.size + 1 = w4.heap.size := by omega
    have km2 : ¬ w4.heap.size = w1.heap.size + 1 := by omega
    have kl3 : w2.heap.size < w4.heap.size := by omega
    have kn3 : ¬ w2.heap.size = w4.heap.size := by omega
    have km3 : ¬ w4.heap.size = w2.heap.size := by omega
    have kl4 : w3.heap.size < w4.heap.size := by omega
    have kn4 : ¬ w3.heap.size = w4.heap.size := by omega
    have km4 : ¬ w4.heap.size = w3.heap.size := by omega
    have HB := Lib.hid (show Below w.heap.size w w4 from by exact HB.out.trans ((show Below _ _ _ from ((Below.refl _ _).alloc (by omega) _)).trans (hb.mono (by first | omega | (simp <;> omega)))))
    have HR := Lib.hid ((show Room _ (w.heap.size) 4 from (HR.out.alloc (by omega) _)).below hb (by first | omega | (simp <;> omega)))
    clear ho hb
    go_wp2_with fail
    refine (l5Four_any (fTimes (dC p q) (dC p q)).1 (fTimes (dC p q) (dS p q)).1 (fTimes (dC p q) (dS p q)).1 (fTimes (dS p q) (dS p q)).1 _ _).mono ?_
    rintro e w5 ho
    rw [← HG.out] at ho
    obtain ⟨rfl, hb⟩ := ho.fn
    have kc0 := fun o => hb.cell (p := ⟨w.heap.size, o, none⟩) (by show w.heap.size < _; first | omega | (simp <;> omega))
    have kf0 := fun o => hb.frozen (p := ⟨w.heap.size, o, none⟩) (by show w.heap.size < _; first | omega | (simp <;> omega))
    have hz := hb.size
    (try simp at hz)
    have kl0 : w.heap.size < w5.heap.size := by omega
    have kn0 : ¬ w.heap.size = w5.heap.size := by omega
    have km0 : ¬ w5.heap.size = w.heap.size := by omega
    have HB := Lib.hid (show Below w.heap.size w w5 from by exact HB.out.trans ((show Below _ _ _ from ((Below.refl _ _).alloc (by omega) _)).trans (hb.mono (by first | omega | (simp <;> omega)))))
    have HR := Lib.hid ((show Room _ (w.heap.size) 4 from (HR.out.alloc (by omega) _)).below hb (by first | omega | (simp <;> omega)))
    clear ho hb
    go_wp2
    refine bodyPost_ret (v := .tuple #[.agg #[.int .i64 (gFil p q).1.a.re, .int .i64 (gFil p q).1.a.im, .int .i64 (gFil p q).1.a.den, .int .i64 (gFil p q).1.b.re, .int .i64 (gFil p q).1.b.im, .int .i64 (gFil p q).1.b.den, .int .i64 (gFil p q).1.c.re, .int .i64 (gFil p q).1.c.im, .int .i64 (gFil p q).1.c.den, .int .i64 (gFil p q).1.d.re, .int .i64 (gFil p q).1.d.im, .int .i64 (gFil p q).1.d.den], .bool (gFil p q).2]) ?_ rfl (M4Out.self ?_)
    · exact Eq.trans (results_cell_mid2 Tryd.results138 _ _ w.heap.size [.int .i64 (gFil p q).1.a.re, .int .i64 (gFil p q).1.a.im, .int .i64 (gFil p q).1.a.den, .int .i64 (gFil p q).1.b.re, .int .i64 (gFil p q).1.b.im, .int .i64 (gFil p q).1.b.den, .int .i64 (gFil p q).1.c.re, .int .i64 (gFil p q).1.c.im, .int .i64 (gFil p q).1.c.den, .int .i64 (gFil p q).1.d.re, .int .i64 (gFil p q).1.d.im, .int .i64 (gFil p q).1.d.den] _ (by rfl) (by ((repeat' first | (with_reducible refine World.rangeAt_setCells_same _ (w.heap.size) 0 [.int .i64 (gFil p q).1.a.re, .int .i64 (gFil p q).1.a.im, .int .i64 (gFil p q).1.a.den, .int .i64 (gFil p q).1.b.re, .int .i64 (gFil p q).1.b.im, .int .i64 (gFil p q).1.b.den, .int .i64 (gFil p q).1.c.re, .int .i64 (gFil p q).1.c.im, .int .i64 (gFil p q).1.c.den, .int .i64 (gFil p q).1.d.re, .int .i64 (gFil p q).1.d.im, .int .i64 (gFil p q).1.d.den] ?_) | (with_reducible refine World.rangeAt_alloc ?_ _) | (with_reducible refine (World.rangeAt_drew _ _ _ _).2 ?_)); first | exact HR.out.there | (have hh := fun W h => World.rangeAt_setCells_same W (w.heap.size) 0 [.int .i64 (gFil p q).1.a.re, .int .i64 (gFil p q).1.a.im, .int .i64 (gFil p q).1.a.den, .int .i64 (gFil p q).1.b.re, .int .i64 (gFil p q).1.b.im, .int .i64 (gFil p q).1.b.den, .int .i64 (gFil p q).1.c.re, .int .i64 (gFil p q).1.c.im, .int .i64 (gFil p q).1.c.den, .int .i64 (gFil p q).1.d.re, .int .i64 (gFil p q).1.d.im, .int .i64 (gFil p q).1.d.den] h; simp only [World.setCells, Nat.zero_add, Nat.reduceAdd] at hh; exact hh _ HR.out.there))) Tryd.underlying41 rfl (by kernel_rfl)) rfl
    · (repeat' first | (with_reducible exact HB.out) | with_reducible refine setCells_below _ _ _ ?_ (by first | omega | (simp <;> omega)) | with_reducible refine Below.setCell ?_ (by show _ ≤ _; first | omega | (simp <;> omega) | simp) _ | with_reducible refine Below.alloc ?_ (by first | omega | (simp <;> omega)) _ | with_reducible apply Below.drew)
  cases h3 : (fTimes (dS p q) (dS p q)).2
  · have HG : Hid (gFil p q = g4 (fTimes (dC p q) (dC p q)).1 (fTimes (dC p q) (dS p q)).1 (fTimes (dC p q) (dS p q)).1 (fTimes (dS p q) (dS p q)).1 false) := by show _ = _; rw [gFil_g hd]; simp [h1, h2, h3]
    clear hd
    go_enter Tryd.func138, Tryd.ntmps138
    go_wp2_with fail
    refine (sdir_any p q _).mono ?_
    rintro e w1 ho
    obtain ⟨rfl, hb⟩ := ho.t HD.out
    have kc0 := fun o => hb.cell (p := ⟨w.heap.size, o, none⟩) (by show w.heap.size < _; first | omega | (simp <;> omega))
    have kf0 := fun o => hb.frozen (p := ⟨w.heap.size, o, none⟩) (by show w.heap.size < _; first | omega | (simp <;> omega))
    have hz := hb.size
    simp at hz
    have kl0 : w.heap.size < w1.heap.size := by omega
    have kn0 : ¬ w.heap.size = w1.heap.size := by omega
    have kn1 : ¬ w.heap.size = w1.heap.size + 1 := by omega
    have kn2 : ¬ w.heap.size = w1.heap.size + 1 + 1 := by omega
    have kn3 : ¬ w.heap.size = w1.heap.size + 2 := by omega
    have HR := Lib.hid (show Room w1 w.heap.size 4 from Room.below (Room.new' rfl rfl) hb (by simp))
    have HB := Lib.hid (show Below w.heap.size w w1 from by (repeat' first | exact Below.refl _ _ | apply bl_alloc | apply bl_drewN | apply bl_drew | refine bl_trans ?_ (by assumption) | refine bl_set ?_ (by first | omega | (simp <;> omega)) _))
    clear ho hb
    go_wp2_with fail
    refine (sptimes_fr (dC p q) (dC p q) _).mono ?_
    rintro e w2 ho
    obtain ⟨rfl, hb⟩ := ho.fn
    have kc0 := fun o => hb.cell (p := ⟨w.heap.size, o, none⟩) (by show w.heap.size < _; first | omega | (simp <;> omega))
    have kc1 := fun o => hb.cell (p := ⟨w1.heap.size, o, none⟩) (by show w1.heap.size < _; first | omega | (simp <;> omega))
    have kc2 := fun o => hb.cell (p := ⟨w1.heap.size + 1, o, none⟩) (by show w1.heap.size + 1 < _; first | omega | (simp <;> omega))
    have kf0 := fun o => hb.frozen (p := ⟨w.heap.size, o, none⟩) (by show w.heap.size < _; first | omega | (simp <;> omega))
    have hz := hb.size
    (try simp at hz)
    have kl0 : w.heap.size < w2.heap.size := by omega
    have kn0 : ¬ w.heap.size = w2.heap.size := by omega
    have km0 : ¬ w2.heap.size = w.heap.size := by omega
    have kl1 : w1.heap.size < w2.heap.size := by omega
    have kn1 : ¬ w1.heap.size = w2.heap.size := by omega
    have km1 : ¬ w2.heap.size = w1.heap.size := by omega
    have kl2 : w1.heap.size + 1 < w2.heap.size := by omega
    have kn2 : ¬ w1.heap.size + 1 = w2.heap.size := by omega
    have km2 : ¬ w2.heap.size = w1.heap.size + 1 := by omega
    have HB := Lib.hid (show Below w.heap.size w w2 from by exact HB.out.trans ((show Below _ _ _ from (((Below.refl _ _).alloc (by omega) _).alloc (by simp; omega) _)).trans (hb.mono (by first | omega | (simp <;> omega)))))
    have HR := Lib.hid ((show Room _ (w.heap.size) 4 from ((HR.out.alloc (by omega) _).alloc (by simp; omega) _)).below hb (by first | omega | (simp <;> omega)))
    clear ho hb
    go_wp2_with fail
    refine (sptimes_fr (dC p q) (dS p q) _).mono ?_
    rintro e w3 ho
    obtain ⟨rfl, hb⟩ := ho.fn
    have kc0 := fun o => hb.cell (p := ⟨w.heap.size, o, none⟩) (by show w.heap.size < _; first | omega | (simp <;> omega))
    have kc1 := fun o => hb.cell (p := ⟨w1.heap.size, o, none⟩) (by show w1.heap.size < _; first | omega | (simp <;> omega))
    have kc2 := fun o => hb.cell (p := ⟨w1.heap.size + 1, o, none⟩) (by show w1.heap.size + 1 < _; first | omega | (simp <;> omega))
    have kc3 := fun o => hb.cell (p := ⟨w2.heap.size, o, none⟩) (by show w2.heap.size < _; first | omega | (simp <;> omega))
    have kf0 := fun o => hb.frozen (p := ⟨w.heap.size, o, none⟩) (by show w.heap.size < _; first | omega | (simp <;> omega))
    have hz := hb.size
    (try simp at hz)
    have kl0 : w.heap.size < w3.heap.size := by omega
    have kn0 : ¬ w.heap.size = w3.heap.size := by omega
    have km0 : ¬ w3.heap.size = w.heap.size := by omega
    have kl1 : w1.heap.size < w3.heap.size := by omega
    have kn1 : ¬ w1.heap.size = w3.heap.size := by omega
    have km1 : ¬ w3.heap.size = w1.heap.size := by omega
    have kl2 : w1.heap.size + 1 < w3.heap.size := by omega
    have kn2 : ¬ w1.heap.size + 1 = w3.heap.size := by omega
    have km2 : ¬ w3.heap.size = w1.heap.size + 1 := by omega
    have kl3 : w2.heap.size < w3.heap.size := by omega
    have kn3 : ¬ w2.heap.size = w3.heap.size := by omega
    have km3 : ¬ w3.heap.size = w2.heap.size := by omega
    have HB := Lib.hid (show Below w.heap.size w w3 from by exact HB.out.trans ((show Below _ _ _ from ((Below.refl _ _).alloc (by omega) _)).trans (hb.mono (by first | omega | (simp <;> omega)))))
    have HR := Lib.hid ((show Room _ (w.heap.size) 4 from (HR.out.alloc (by omega) _)).below hb (by first | omega | (simp <;> omega)))
    clear ho hb
    go_wp2_with fail
    refine (sptimes_fr (dS p q) (dS p q) _).mono ?_
    rintro e w4 ho
    obtain ⟨rfl, hb⟩ := ho.fn
    have kc0 := fun o => hb.cell (p := ⟨w.heap.size, o, none⟩) (by show w.heap.size < _; first | omega | (simp <;> omega))
    have kc1 := fun o => hb.cell (p := ⟨w1.heap.size, o, none⟩) (by show w1.heap.size < _; first | omega | (simp <;> omega))
    have kc2 := fun o => hb.cell (p := ⟨w1.heap.size + 1, o, none⟩) (by show w1.heap.size + 1 < _; first | omega | (simp <;> omega))
    have kc3 := fun o => hb.cell (p := ⟨w2.heap.size, o, none⟩) (by show w2.heap.size < _; first | omega | (simp <;> omega))
    have kc4 := fun o => hb.cell (p := ⟨w3.heap.size, o, none⟩) (by show w3.heap.size < _; first | omega | (simp <;> omega))
    have kf0 := fun o => hb.frozen (p := ⟨w.heap.size, o, none⟩) (by show w.heap.size < _; first | omega | (simp <;> omega))
    have hz := hb.size
    (try simp at hz)
    have kl0 : w.heap.size < w4.heap.size := by omega
    have kn0 : ¬ w.heap.size = w4.heap.size := by omega
    have km0 : ¬ w4.heap.size = w.heap.size := by omega
    have kl1 : w1.heap.size < w4.heap.size := by omega
    have kn1 : ¬ w1.heap.size = w4.heap.size := by omega
    have km1 : ¬ w4.heap.size = w1.heap.size := by omega
    have kl2 : w1.heap.size + 1 < w4.heap.size := by omega
    have kn2 : ¬ w1.heap.size + 1 = w4.heap.size := by omega
    have km2 : ¬ w4.heap.size = w1.heap.size + 1 := by omega
    have kl3 : w2.heap.size < w4.heap.size := by omega
    have kn3 : ¬ w2.heap.size = w4.heap.size := by omega
    have km3 : ¬ w4.heap.size = w2.heap.size := by omega
    have kl4 : w3.heap.size < w4.heap.size := by omega
    have kn4 : ¬ w3.heap.size = w4.heap.size := by omega
    have km4 : ¬ w4.heap.size = w3.heap.size := by omega
    have HB := Lib.hid (show Below w.heap.size w w4 from by exact HB.out.trans ((show Below _ _ _ from ((Below.refl _ _).alloc (by omega) _)).trans (hb.mono (by first | omega | (simp <;> omega)))))
    have HR := Lib.hid ((show Room _ (w.heap.size) 4 from (HR.out.alloc (by omega) _)).below hb (by first | omega | (simp <;> omega)))
    clear ho hb
    go_wp2_with fail
    refine (l5Four_any (fTimes (dC p q) (dC p q)).1 (fTimes (dC p q) (dS p q)).1 (fTimes (dC p q) (dS p q)).1 (fTimes (dS p q) (dS p q)).1 _ _).mono ?_
    rintro e w5 ho
    rw [← HG.out] at ho
    obtain ⟨rfl, hb⟩ := ho.fn
    have kc0 := fun o => hb.cell (p := ⟨w.heap.size, o, none⟩) (by show w.heap.size < _; first | omega | (simp <;> omega))
    have kf0 := fun o => hb.frozen (p := ⟨w.heap.size, o, none⟩) (by show w.heap.size < _; first | omega | (simp <;> omega))
    have hz := hb.size
    (try simp at hz)
    have kl0 : w.heap.size < w5.heap.size := by omega
    have kn0 : ¬ w.heap.size = w5.heap.size := by omega
    have km0 : ¬ w5.heap.size = w.heap.size := by omega
    have HB := Lib.hid (show Below w.heap.size w w5 from by exact HB.out.trans ((show Below _ _ _ from ((Below.refl _ _).alloc (by omega) _)).trans (hb.mono (by first | omega | (simp <;> omega)))))
    have HR := Lib.hid ((show Room _ (w.heap.size) 4 from (HR.out.alloc (by omega) _)).below hb (by first | omega | (simp <;> omega)))
    clear ho hb
    go_wp2
    refine bodyPost_ret (v := .tuple #[.agg #[.int .i64 (gFil p q).1.a.re, .int .i64 (gFil p q).1.a.im, .int .i64 (gFil p q).1.a.den, .int .i64 (gFil p q).1.b.re, .int .i64 (gFil p q).1.b.im, .int .i64 (gFil p q).1.b.den, .int .i64 (gFil p q).1.c.re, .int .i64 (gFil p q).1.c.im, .int .i64 (gFil p q).1.c.den, .int .i64 (gFil p q).1.d.re, .int .i64 (gFil p q).1.d.im, .int .i64 (gFil p q).1.d.den], .bool (gFil p q).2]) ?_ rfl (M4Out.self ?_)
    · exact Eq.trans (results_cell_mid2 Tryd.results138 _ _ w.heap.size [.int .i64 (gFil p q).1.a.re, .int .i64 (gFil p q).1.a.im, .int .i64 (gFil p q).1.a.den, .int .i64 (gFil p q).1.b.re, .int .i64 (gFil p q).1.b.im, .int .i64 (gFil p q).1.b.den, .int .i64 (gFil p q).1.c.re, .int .i64 (gFil p q).1.c.im, .int .i64 (gFil p q).1.c.den, .int .i64 (gFil p q).1.d.re, .int .i64 (gFil p q).1.d.im, .int .i64 (gFil p q).1.d.den] _ (by rfl) (by ((repeat' first | (with_reducible refine World.rangeAt_setCells_same _ (w.heap.size) 0 [.int .i64 (gFil p q).1.a.re, .int .i64 (gFil p q).1.a.im, .int .i64 (gFil p q).1.a.den, .int .i64 (gFil p q).1.b.re, .int .i64 (gFil p q).1.b.im, .int .i64 (gFil p q).1.b.den, .int .i64 (gFil p q).1.c.re, .int .i64 (gFil p q).1.c.im, .int .i64 (gFil p q).1.c.den, .int .i64 (gFil p q).1.d.re, .int .i64 (gFil p q).1.d.im, .int .i64 (gFil p q).1.d.den] ?_) | (with_reducible refine World.rangeAt_alloc ?_ _) | (with_reducible refine (World.rangeAt_drew _ _ _ _).2 ?_)); first | exact HR.out.there | (have hh := fun W h => World.rangeAt_setCells_same W (w.heap.size) 0 [.int .i64 (gFil p q).1.a.re, .int .i64 (gFil p q).1.a.im, .int .i64 (gFil p q).1.a.den, .int .i64 (gFil p q).1.b.re, .int .i64 (gFil p q).1.b.im, .int .i64 (gFil p q).1.b.den, .int .i64 (gFil p q).1.c.re, .int .i64 (gFil p q).1.c.im, .int .i64 (gFil p q).1.c.den, .int .i64 (gFil p q).1.d.re, .int .i64 (gFil p q).1.d.im, .int .i64 (gFil p q).1.d.den] h; simp only [World.setCells, Nat.zero_add, Nat.reduceAdd] at hh; exact hh _ HR.out.there))) Tryd.underlying41 rfl (by kernel_rfl)) rfl
    · (repeat' first | (with_reducible exact HB.out) | with_reducible refine setCells_below _ _ _ ?_ (by first | omega | (simp <;> omega)) | with_reducible refine Below.setCell ?_ (by show _ ≤ _; first | omega | (simp <;> omega) | simp) _ | with_reducible refine Below.alloc ?_ (by first | omega | (simp <;> omega)) _ | with_reducible apply Below.drew)
  · have HG : Hid (gFil p q = g4 (fTimes (dC p q) (dC p q)).1 (fTimes (dC p q) (dS p q)).1 (fTimes (dC p q) (dS p q)).1 (fTimes (dS p q) (dS p q)).1 true) := by show _ = _; rw [gFil_g hd]; simp [h1, h2, h3]
    clear hd
    go_enter Tryd.func138, Tryd.ntmps138
    go_wp2_with fail
    refine (sdir_any p q _).mono ?_
    rintro e w1 ho
    obtain ⟨rfl, hb⟩ := ho.t HD.out
    have kc0 := fun o => hb.cell (p := ⟨w.heap.size, o, none⟩) (by show w.heap.size < _; first | omega | (simp <;> omega))
    have kf0 := fun o => hb.frozen (p := ⟨w.heap.size, o, none⟩) (by show w.heap.size < _; first | omega | (simp <;> omega))
    have hz := hb.size
    simp at hz
    have kl0 : w.heap.size < w1.heap.size := by omega
    have kn0 : ¬ w.heap.size = w1.heap.size := by omega
    have kn1 : ¬ w.heap.size = w1.heap.size + 1 := by omega
    have kn2 : ¬ w.heap.size = w1.heap.size + 1 + 1 := by omega
    have kn3 : ¬ w.heap.size = w1.heap.size + 2 := by omega
    have HR := Lib.hid (show Room w1 w.heap.size 4 from Room.below (Room.new' rfl rfl) hb (by simp))
    have HB := Lib.hid (show Below w.heap.size w w1 from by (repeat' first | exact Below.refl _ _ | apply bl_alloc | apply bl_drewN | apply bl_drew | refine bl_trans ?_ (by assumption) | refine bl_set ?_ (by first | omega | (simp <;> omega)) _))
    clear ho hb
    go_wp2_with fail
    refine (sptimes_fr (dC p q) (dC p q) _).mono ?_
    rintro e w2 ho
    obtain ⟨rfl, hb⟩ := ho.fn
    have kc0 := fun o => hb.cell (p := ⟨w.heap.size, o, none⟩) (by show w.heap.size < _; first | omega | (simp <;> omega))
    have kc1 := fun o => hb.cell (p := ⟨w1.heap.size, o, none⟩) (by show w1.heap.size < _; first | omega | (simp <;> omega))
    have kc2 := fun o => hb.cell (p := ⟨w1.heap.size + 1, o, none⟩) (by show w1.heap.size + 1 < _; first | omega | (simp <;> omega))
    have kf0 := fun o => hb.frozen (p := ⟨w.heap.size, o, none⟩) (by show w.heap.size < _; first | omega | (simp <;> omega))
    have hz := hb.size
    (try simp at hz)
    have kl0 : w.heap.size < w2.heap.size := by omega
    have kn0 : ¬ w.heap.size = w2.heap.size := by omega
    have km0 : ¬ w2.heap.size = w.heap.size := by omega
    have kl1 : w1.heap.size < w2.heap.size := by omega
    have kn1 : ¬ w1.heap.size = w2.heap.size := by omega
    have km1 : ¬ w2.heap.size = w1.heap.size := by omega
    have kl2 : w1.heap.size + 1 < w2.heap.size := by omega
    have kn2 : ¬ w1.heap.size + 1 = w2.heap.size := by omega
    have km2 : ¬ w2.heap.size = w1.heap.size + 1 := by omega
    have HB := Lib.hid (show Below w.heap.size w w2 from by exact HB.out.trans ((show Below _ _ _ from (((Below.refl _ _).alloc (by omega) _).alloc (by simp; omega) _)).trans (hb.mono (by first | omega | (simp <;> omega)))))
    have HR := Lib.hid ((show Room _ (w.heap.size) 4 from ((HR.out.alloc (by omega) _).alloc (by simp; omega) _)).below hb (by first | omega | (simp <;> omega)))
    clear ho hb
    go_wp2_with fail
    refine (sptimes_fr (dC p q) (dS p q) _).mono ?_
    rintro e w3 ho
    obtain ⟨rfl, hb⟩ := ho.fn
    have kc0 := fun o => hb.cell (p := ⟨w.heap.size, o, none⟩) (by show w.heap.size < _; first | omega | (simp <;> omega))
    have kc1 := fun o => hb.cell (p := ⟨w1.heap.size, o, none⟩) (by show w1.heap.size < _; first | omega | (simp <;> omega))
    have kc2 := fun o => hb.cell (p := ⟨w1.heap.size + 1, o, none⟩) (by show w1.heap.size + 1 < _; first | omega | (simp <;> omega))
    have kc3 := fun o => hb.cell (p := ⟨w2.heap.size, o, none⟩) (by show w2.heap.size < _; first | omega | (simp <;> omega))
    have kf0 := fun o => hb.frozen (p := ⟨w.heap.size, o, none⟩) (by show w.heap.size < _; first | omega | (simp <;> omega))
    have hz := hb.size
    (try simp at hz)
    have kl0 : w.heap.size < w3.heap.size := by omega
    have kn0 : ¬ w.heap.size = w3.heap.size := by omega
    have km0 : ¬ w3.heap.size = w.heap.size := by omega
    have kl1 : w1.heap.size < w3.heap.size := by omega
    have kn1 : ¬ w1.heap.size = w3.heap.size := by omega
    have km1 : ¬ w3.heap.size = w1.heap.size := by omega
    have kl2 : w1.heap.size + 1 < w3.heap.size := by omega
    have kn2 : ¬ w1.heap.size + 1 = w3.heap.size := by omega
    have km2 : ¬ w3.heap.size = w1.heap.size + 1 := by omega
    have kl3 : w2.heap.size < w3.heap.size := by omega
    have kn3 : ¬ w2.heap.size = w3.heap.size := by omega
    have km3 : ¬ w3.heap.size = w2.heap.size := by omega
    have HB := Lib.hid (show Below w.heap.size w w3 from by exact HB.out.trans ((show Below _ _ _ from ((Below.refl _ _).alloc (by omega) _)).trans (hb.mono (by first | omega | (simp <;> omega)))))
    have HR := Lib.hid ((show Room _ (w.heap.size) 4 from (HR.out.alloc (by omega) _)).below hb (by first | omega | (simp <;> omega)))
    clear ho hb
    go_wp2_with fail
    refine (sptimes_fr (dS p q) (dS p q) _).mono ?_
    rintro e w4 ho
    obtain ⟨rfl, hb⟩ := ho.fn
    have kc0 := fun o => hb.cell (p := ⟨w.heap.size, o, none⟩) (by show w.heap.size < _; first | omega | (simp <;> omega))
    have kc1 := fun o => hb.cell (p := ⟨w1.heap.size, o, none⟩) (by show w1.heap.size < _; first | omega | (simp <;> omega))
    have kc2 := fun o => hb.cell (p := ⟨w1.heap.size + 1, o, none⟩) (by show w1.heap.size + 1 < _; first | omega | (simp <;> omega))
    have kc3 := fun o => hb.cell (p := ⟨w2.heap.size, o, none⟩) (by show w2.heap.size < _; first | omega | (simp <;> omega))
    have kc4 := fun o => hb.cell (p := ⟨w3.heap.size, o, none⟩) (by show w3.heap.size < _; first | omega | (simp <;> omega))
    have kf0 := fun o => hb.frozen (p := ⟨w.heap.size, o, none⟩) (by show w.heap.size < _; first | omega | (simp <;> omega))
    have hz := hb.size
    (try simp at hz)
    have kl0 : w.heap.size < w4.heap.size := by omega
    have kn0 : ¬ w.heap.size = w4.heap.size := by omega
    have km0 : ¬ w4.heap.size = w.heap.size := by omega
    have kl1 : w1.heap.size < w4.heap.size := by omega
    have kn1 : ¬ w1.heap.size = w4.heap.size := by omega
    have km1 : ¬ w4.heap.size = w1.heap.size := by omega
    have kl2 : w1.heap.size + 1 < w4.heap.size := by omega
    have kn2 : ¬ w1.heap.size + 1 = w4.heap.size := by omega
    have km2 : ¬ w4.heap.size = w1.heap.size + 1 := by omega
    have kl3 : w2.heap.size < w4.heap.size := by omega
    have kn3 : ¬ w2.heap.size = w4.heap.size := by omega
    have km3 : ¬ w4.heap.size = w2.heap.size := by omega
    have kl4 : w3.heap.size < w4.heap.size := by omega
    have kn4 : ¬ w3.heap.size = w4.heap.size := by omega
    have km4 : ¬ w4.heap.size = w3.heap.size := by omega
    have HB := Lib.hid (show Below w.heap.size w w4 from by exact HB.out.trans ((show Below _ _ _ from ((Below.refl _ _).alloc (by omega) _)).trans (hb.mono (by first | omega | (simp <;> omega)))))
    have HR := Lib.hid ((show Room _ (w.heap.size) 4 from (HR.out.alloc (by omega) _)).below hb (by first | omega | (simp <;> omega)))
    clear ho hb
    go_wp2_with fail
    refine (l5Four_any (fTimes (dC p q) (dC p q)).1 (fTimes (dC p q) (dS p q)).1 (fTimes (dC p q) (dS p q)).1 (fTimes (dS p q) (dS p q)).1 _ _).mono ?_
    rintro e w5 ho
    rw [← HG.out] at ho
    obtain ⟨rfl, hb⟩ := ho.fn
    have kc0 := fun o => hb.cell (p := ⟨w.heap.size, o, none⟩) (by show w.heap.size < _; first | omega | (simp <;> omega))
    have kf0 := fun o => hb.frozen (p := ⟨w.heap.size, o, none⟩) (by show w.heap.size < _; first | omega | (simp <;> omega))
    have hz := hb.size
    (try simp at hz)
    have kl0 : w.heap.size < w5.heap.size := by omega
    have kn0 : ¬ w.heap.size = w5.heap.size := by omega
    have km0 : ¬ w5.heap.size = w.heap.size := by omega
    have HB := Lib.hid (show Below w.heap.size w w5 from by exact HB.out.trans ((show Below _ _ _ from ((Below.refl _ _).alloc (by omega) _)).trans (hb.mono (by first | omega | (simp <;> omega)))))
    have HR := Lib.hid ((show Room _ (w.heap.size) 4 from (HR.out.alloc (by omega) _)).below hb (by first | omega | (simp <;> omega)))
    clear ho hb
    go_wp2
    refine bodyPost_ret (v := .tuple #[.agg #[.int .i64 (gFil p q).1.a.re, .int .i64 (gFil p q).1.a.im, .int .i64 (gFil p q).1.a.den, .int .i64 (gFil p q).1.b.re, .int .i64 (gFil p q).1.b.im, .int .i64 (gFil p q).1.b.den, .int .i64 (gFil p q).1.c.re, .int .i64 (gFil p q).1.c.im, .int .i64 (gFil p q).1.c.den, .int .i64 (gFil p q).1.d.re, .int .i64 (gFil p q).1.d.im, .int .i64 (gFil p q).1.d.den], .bool (gFil p q).2]) ?_ rfl (M4Out.self ?_)
    · exact Eq.trans (results_cell_mid2 Tryd.results138 _ _ w.heap.size [.int .i64 (gFil p q).1.a.re, .int .i64 (gFil p q).1.a.im, .int .i64 (gFil p q).1.a.den, .int .i64 (gFil p q).1.b.re, .int .i64 (gFil p q).1.b.im, .int .i64 (gFil p q).1.b.den, .int .i64 (gFil p q).1.c.re, .int .i64 (gFil p q).1.c.im, .int .i64 (gFil p q).1.c.den, .int .i64 (gFil p q).1.d.re, .int .i64 (gFil p q).1.d.im, .int .i64 (gFil p q).1.d.den] _ (by rfl) (by ((repeat' first | (with_reducible refine World.rangeAt_setCells_same _ (w.heap.size) 0 [.int .i64 (gFil p q).1.a.re, .int .i64 (gFil p q).1.a.im, .int .i64 (gFil p q).1.a.den, .int .i64 (gFil p q).1.b.re, .int .i64 (gFil p q).1.b.im, .int .i64 (gFil p q).1.b.den, .int .i64 (gFil p q).1.c.re, .int .i64 (gFil p q).1.c.im, .int .i64 (gFil p q).1.c.den, .int .i64 (gFil p q).1.d.re, .int .i64 (gFil p q).1.d.im, .int .i64 (gFil p q).1.d.den] ?_) | (with_reducible refine World.rangeAt_alloc ?_ _) | (with_reducible refine (World.rangeAt_drew _ _ _ _).2 ?_)); first | exact HR.out.there | (have hh := fun W h => World.rangeAt_setCells_same W (w.heap.size) 0 [.int .i64 (gFil p q).1.a.re, .int .i64 (gFil p q).1.a.im, .int .i64 (gFil p q).1.a.den, .int .i64 (gFil p q).1.b.re, .int .i64 (gFil p q).1.b.im, .int .i64 (gFil p q).1.b.den, .int .i64 (gFil p q).1.c.re, .int .i64 (gFil p q).1.c.im, .int .i64 (gFil p q).1.c.den, .int .i64 (gFil p q).1.d.re, .int .i64 (gFil p q).1.d.im, .int .i64 (gFil p q).1.d.den] h; simp only [World.setCells, Nat.zero_add, Nat.reduceAdd] at hh; exact hh _ HR.out.there))) Tryd.underlying41 rfl (by kernel_rfl)) rfl
    · (repeat' first | (with_reducible exact HB.out) | with_reducible refine setCells_below _ _ _ ?_ (by first | omega | (simp <;> omega)) | with_reducible refine Below.setCell ?_ (by show _ ≤ _; first | omega | (simp <;> omega) | simp) _ | with_reducible refine Below.alloc ?_ (by first | omega | (simp <;> omega)) _ | with_reducible apply Below.drew)
end Go.Proofs.YtmcokdiopcpifaaDoor
