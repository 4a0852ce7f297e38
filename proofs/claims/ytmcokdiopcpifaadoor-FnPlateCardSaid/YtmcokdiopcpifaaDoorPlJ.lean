/- Contracts: vectors, on both sides. -/
import Derived.Test.YtmcokdiopcpifaaDoorPlT
import Derived.Test.YtmcokdiopcpifaaDoorPlV
import Derived.Test.YtmcokdiopcpifaaDoorPlG4
import Derived.Test.YtmcokdiopcpifaaDoorPlN
set_option maxRecDepth 100000
namespace Go.Proofs.YtmcokdiopcpifaaDoor
open Go.RowKit Pol
/-- What a call hands back that makes a vector. -/
def J2Out (g : J2 × Bool) (w : World) (e : Ending) (w' : World) : Prop :=
  e = .returned (.tuple #[.agg #[.int .i64 g.1.x.re, .int .i64 g.1.x.im, .int .i64 g.1.x.den, .int .i64 g.1.y.re, .int .i64 g.1.y.im, .int .i64 g.1.y.den], .bool g.2]) ∧ Below w.heap.size w w'
theorem J2Out.yes {g : J2 × Bool} {f : J2} {w w' : World} (h2 : g.2 = true) (h1 : f = g.1) (hb : Below w.heap.size w w') : J2Out g w (.returned (.tuple #[.agg #[.int .i64 f.x.re, .int .i64 f.x.im, .int .i64 f.x.den, .int .i64 f.y.re, .int .i64 f.y.im, .int .i64 f.y.den], .bool true])) w' :=
  ⟨by rw [h1, h2], hb⟩
theorem J2Out.no {g : J2 × Bool} {w w' : World} (h2 : g = (j2z, false)) (hb : Below w.heap.size w w') : J2Out g w (.returned (.tuple #[.agg #[.int .i64 0, .int .i64 0, .int .i64 0, .int .i64 0, .int .i64 0, .int .i64 0], .bool false])) w' :=
  ⟨by rw [h2]; rfl, hb⟩
theorem J2Out.self {g : J2 × Bool} {w w' : World} (hb : Below w.heap.size w w') : J2Out g w (.returned (.tuple #[.agg #[.int .i64 g.1.x.re, .int .i64 g.1.x.im, .int .i64 g.1.x.den, .int .i64 g.1.y.re, .int .i64 g.1.y.im, .int .i64 g.1.y.den], .bool g.2])) w' := ⟨rfl, hb⟩
theorem J2Out.fn {g : J2 × Bool} {w w' : World} {e : Ending} (h : J2Out g w e w') : e = .returned (.tuple #[.agg #[.int .i64 g.1.x.re, .int .i64 g.1.x.im, .int .i64 g.1.x.den, .int .i64 g.1.y.re, .int .i64 g.1.y.im, .int .i64 g.1.y.den], .bool g.2]) ∧ Below w.heap.size w w' := h
theorem FrOut.self {g : Fr × Bool} {w w' : World} (hb : Below w.heap.size w w') : FrOut g w (.returned (.tuple #[.agg #[.int .i64 g.1.re, .int .i64 g.1.im, .int .i64 g.1.den], .bool g.2])) w' := ⟨g.1, g.2, rfl, rfl, hb⟩
set_option maxRecDepth 100000 in
set_option maxHeartbeats 8000000 in
theorem l3in_any (a : Fr) (b : Fr) (c : Fr) (d : Fr) (w : World) :
    Calls Tryd.prog 137 #[.agg #[.int .i64 a.re, .int .i64 a.im, .int .i64 a.den], .agg #[.int .i64 b.re, .int .i64 b.im, .int .i64 b.den], .agg #[.int .i64 c.re, .int .i64 c.im, .int .i64 c.den], .agg #[.int .i64 d.re, .int .i64 d.im, .int .i64 d.den]] w (FrOut (fIn a b c d) w) := by
  cases h1 : (fTimes a b).2
  · have HG : Hid ((fIn a b c d) = (fz, false)) := by show _ = _; simp [fIn, h1]
    go_enter Tryd.func137, Tryd.ntmps137
    go_wp2_with fail
    refine (sptimes_fr a b _).mono ?_
    rintro e w1 ho
    obtain ⟨rfl, hb⟩ := ho.fn
    have kc0 := fun o => hb.cell (p := ⟨w.heap.size, o, none⟩) (by show w.heap.size < _; first | omega | (simp <;> omega))
    have kc1 := fun o => hb.cell (p := ⟨w.heap.size + 1, o, none⟩) (by show w.heap.size + 1 < _; first | omega | (simp <;> omega))
    have kc2 := fun o => hb.cell (p := ⟨w.heap.size + 1 + 1, o, none⟩) (by show w.heap.size + 1 + 1 < _; first | omega | (simp <;> omega))
    have kc3 := fun o => hb.cell (p := ⟨w.heap.size + 1 + 1 + 1, o, none⟩) (by show w.heap.size + 1 + 1 + 1 < _; first | omega | (simp <;> omega))
    have kc4 := fun o => hb.cell (p := ⟨w.heap.size + 1 + 1 + 1 + 1, o, none⟩) (by show w.heap.size + 1 + 1 + 1 + 1 < _; first | omega | (simp <;> omega))
    have kf0 := fun o => hb.frozen (p := ⟨w.heap.size + 1 + 1 + 1 + 1, o, none⟩) (by show w.heap.size + 1 + 1 + 1 + 1 < _; first | omega | (simp <;> omega))
    have hz := hb.size
    (try simp at hz)
    have kl0 : w.heap.size < w1.heap.size := by omega
    have kn0 : ¬ w.heap.size = w1.heap.size := by omega
    have km0 : ¬ w1.heap.size = w.heap.size := by omega
    have kl1 : w.heap.size + 1 < w1.heap.size := by omega
    have kn1 : ¬ w.heap.size + 1 = w1.heap.size := by omega
    have km1 : ¬ w1.heap.size = w.heap.size + 1 := by omega
    have kl2 : w.heap.size + 1 + 1 < w1.heap.size := by omega
    have kn2 : ¬ w.heap.size + 1 + 1 = w1.heap.size := by omega
    have km2 : ¬ w1.heap.size = w.heap.size + 1 + 1 := by omega
    have kl3 : w.heap.size + 1 + 1 + 1 < w1.heap.size := by omega
    have kn3 : ¬ w.heap.size + 1 + 1 + 1 = w1.heap.size := by omega
    have km3 : ¬ w1.heap.size = w.heap.size + 1 + 1 + 1 := by omega
    have kl4 : w.heap.size + 1 + 1 + 1 + 1 < w1.heap.size := by omega
    have kn4 : ¬ w.heap.size + 1 + 1 + 1 + 1 = w1.heap.size := by omega
    have km4 : ¬ w1.heap.size = w.heap.size + 1 + 1 + 1 + 1 := by omega
    have HB := Lib.hid (show Below w.heap.size w w1 from by (repeat' first | exact Below.refl _ _ | apply bl_alloc | apply bl_drewN | apply bl_drew | refine bl_trans ?_ (by assumption) | refine bl_set ?_ (by first | omega | (simp <;> omega)) _))
    have HR := Lib.hid ((show Room _ (w.heap.size + 1 + 1 + 1 + 1) 1 from (Room.new' (by simp) rfl)).below hb (by first | omega | (simp <;> omega)))
    clear ho hb
    go_wp2_with fail
    refine (sptimes_fr c d _).mono ?_
    rintro e w2 ho
    obtain ⟨rfl, hb⟩ := ho.fn
    have kc0 := fun o => hb.cell (p := ⟨w.heap.size, o, none⟩) (by show w.heap.size < _; first | omega | (simp <;> omega))
    have kc1 := fun o => hb.cell (p := ⟨w.heap.size + 1, o, none⟩) (by show w.heap.size + 1 < _; first | omega | (simp <;> omega))
    have kc2 := fun o => hb.cell (p := ⟨w.heap.size + 1 + 1, o, none⟩) (by show w.heap.size + 1 + 1 < _; first | omega | (simp <;> omega))
    have kc3 := fun o => hb.cell (p := ⟨w.heap.size + 1 + 1 + 1, o, none⟩) (by show w.heap.size + 1 + 1 + 1 < _; first | omega | (simp <;> omega))
    have kc4 := fun o => hb.cell (p := ⟨w.heap.size + 1 + 1 + 1 + 1, o, none⟩) (by show w.heap.size + 1 + 1 + 1 + 1 < _; first | omega | (simp <;> omega))
    have kc5 := fun o => hb.cell (p := ⟨w1.heap.size, o, none⟩) (by show w1.heap.size < _; first | omega | (simp <;> omega))
    have kf0 := fun o => hb.frozen (p := ⟨w.heap.size + 1 + 1 + 1 + 1, o, none⟩) (by show w.heap.size + 1 + 1 + 1 + 1 < _; first | omega | (simp <;> omega))
    have hz := hb.size
    (try simp at hz)
    have kl0 : w.heap.size < w2.heap.size := by omega
    have kn0 : ¬ w.heap.size = w2.heap.size := by omega
    have km0 : ¬ w2.heap.size = w.heap.size := by omega
    have kl1 : w.heap.size + 1 < w2.heap.size := by omega
    have kn1 : ¬ w.heap.size + 1 = w2.heap.size := by omega
    have km1 : ¬ w2.heap.size = w.heap.size + 1 := by omega
    have kl2 : w.heap.size + 1 + 1 < w2.heap.size := by omega
    have kn2 : ¬ w.heap.size + 1 + 1 = w2.heap.size := by omega
    have km2 : ¬ w2.heap.size = w.heap.size + 1 + 1 := by omega
    have kl3 : w.heap.size + 1 + 1 + 1 < w2.heap.size := by omega
    have kn3 : ¬ w.heap.size + 1 + 1 + 1 = w2.heap.size := by omega
    have km3 : ¬ w2.heap.size = w.heap.size + 1 + 1 + 1 := by omega
    have kl4 : w.heap.size + 1 + 1 + 1 + 1 < w2.heap.size := by omega
    have kn4 : ¬ w.heap.size + 1 + 1 + 1 + 1 = w2.heap.size := by omega
    have km4 : ¬ w2.heap.size = w.heap.size + 1 + 1 + 1 + 1 := by omega
    have kl5 : w1.heap.size < w2.heap.size := by omega
    have kn5 : ¬ w1.heap.size = w2.heap.size := by omega
    have km5 : ¬ w2.heap.size = w1.heap.size := by omega
    have HB := Lib.hid (show Below w.heap.size w w2 from by exact HB.out.trans ((show Below _ _ _ from ((Below.refl _ _).alloc (by omega) _)).trans (hb.mono (by first | omega | (simp <;> omega)))))
    have HR := Lib.hid ((show Room _ (w.heap.size + 1 + 1 + 1 + 1) 1 from (HR.out.alloc (by omega) _)).below hb (by first | omega | (simp <;> omega)))
    clear ho hb
    go_wp2
    refine bodyPost_ret (v := .tuple #[.agg #[.int .i64 0, .int .i64 0, .int .i64 0], .bool false]) (by simp [results, Tryd.results137, go_sem, *]) rfl (FrOut.no HG.out ?_)
    (repeat' first | (with_reducible exact HB.out) | with_reducible refine setCells_below _ _ _ ?_ (by first | omega | (simp <;> omega)) | with_reducible refine Below.setCell ?_ (by show _ ≤ _; first | omega | (simp <;> omega) | simp) _ | with_reducible refine Below.alloc ?_ (by first | omega | (simp <;> omega)) _ | with_reducible apply Below.drew)
  cases h2 : (fTimes c d).2
  · have HG : Hid ((fIn a b c d) = (fz, false)) := by show _ = _; simp [fIn, h1, h2]
    go_enter Tryd.func137, Tryd.ntmps137
    go_wp2_with fail
    refine (sptimes_fr a b _).mono ?_
    rintro e w1 ho
    obtain ⟨rfl, hb⟩ := ho.fn
    have kc0 := fun o => hb.cell (p := ⟨w.heap.size, o, none⟩) (by show w.heap.size < _; first | omega | (simp <;> omega))
    have kc1 := fun o => hb.cell (p := ⟨w.heap.size + 1, o, none⟩) (by show w.heap.size + 1 < _; first | omega | (simp <;> omega))
    have kc2 := fun o => hb.cell (p := ⟨w.heap.size + 1 + 1, o, none⟩) (by show w.heap.size + 1 + 1 < _; first | omega | (simp <;> omega))
    have kc3 := fun o => hb.cell (p := ⟨w.heap.size + 1 + 1 + 1, o, none⟩) (by show w.heap.size + 1 + 1 + 1 < _; first | omega | (simp <;> omega))
    have kc4 := fun o => hb.cell (p := ⟨w.heap.size + 1 + 1 + 1 + 1, o, none⟩) (by show w.heap.size + 1 + 1 + 1 + 1 < _; first | omega | (simp <;> omega))
    have kf0 := fun o => hb.frozen (p := ⟨w.heap.size + 1 + 1 + 1 + 1, o, none⟩) (by show w.heap.size + 1 + 1 + 1 + 1 < _; first | omega | (simp <;> omega))
    have hz := hb.size
    (try simp at hz)
    have kl0 : w.heap.size < w1.heap.size := by omega
    have kn0 : ¬ w.heap.size = w1.heap.size := by omega
    have km0 : ¬ w1.heap.size = w.heap.size := by omega
    have kl1 : w.heap.size + 1 < w1.heap.size := by omega
    have kn1 : ¬ w.heap.size + 1 = w1.heap.size := by omega
    have km1 : ¬ w1.heap.size = w.heap.size + 1 := by omega
    have kl2 : w.heap.size + 1 + 1 < w1.heap.size := by omega
    have kn2 : ¬ w.heap.size + 1 + 1 = w1.heap.size := by omega
    have km2 : ¬ w1.heap.size = w.heap.size + 1 + 1 := by omega
    have kl3 : w.heap.size + 1 + 1 + 1 < w1.heap.size := by omega
    have kn3 : ¬ w.heap.size + 1 + 1 + 1 = w1.heap.size := by omega
    have km3 : ¬ w1.heap.size = w.heap.size + 1 + 1 + 1 := by omega
    have kl4 : w.heap.size + 1 + 1 + 1 + 1 < w1.heap.size := by omega
    have kn4 : ¬ w.heap.size + 1 + 1 + 1 + 1 = w1.heap.size := by omega
    have km4 : ¬ w1.heap.size = w.heap.size + 1 + 1 + 1 + 1 := by omega
    have HB := Lib.hid (show Below w.heap.size w w1 from by (repeat' first | exact Below.refl _ _ | apply bl_alloc | apply bl_drewN | apply bl_drew | refine bl_trans ?_ (by assumption) | refine bl_set ?_ (by first | omega | (simp <;> omega)) _))
    have HR := Lib.hid ((show Room _ (w.heap.size + 1 + 1 + 1 + 1) 1 from (Room.new' (by simp) rfl)).below hb (by first | omega | (simp <;> omega)))
    clear ho hb
    go_wp2_with fail
    refine (sptimes_fr c d _).mono ?_
    rintro e w2 ho
    obtain ⟨rfl, hb⟩ := ho.fn
    have kc0 := fun o => hb.cell (p := ⟨w.heap.size, o, none⟩) (by show w.heap.size < _; first | omega | (simp <;> omega))
    have kc1 := fun o => hb.cell (p := ⟨w.heap.size + 1, o, none⟩) (by show w.heap.size + 1 < _; first | omega | (simp <;> omega))
    have kc2 := fun o => hb.cell (p := ⟨w.heap.size + 1 + 1, o, none⟩) (by show w.heap.size + 1 + 1 < _; first | omega | (simp <;> omega))
    have kc3 := fun o => hb.cell (p := ⟨w.heap.size + 1 + 1 + 1, o, none⟩) (by show w.heap.size + 1 + 1 + 1 < _; first | omega | (simp <;> omega))
    have kc4 := fun o => hb.cell (p := ⟨w.heap.size + 1 + 1 + 1 + 1, o, none⟩) (by show w.heap.size + 1 + 1 + 1 + 1 < _; first | omega | (simp <;> omega))
    have kc5 := fun o => hb.cell (p := ⟨w1.heap.size, o, none⟩) (by show w1.heap.size < _; first | omega | (simp <;> omega))
    have kf0 := fun o => hb.frozen (p := ⟨w.heap.size + 1 + 1 + 1 + 1, o, none⟩) (by show w.heap.size + 1 + 1 + 1 + 1 < _; first | omega | (simp <;> omega))
    have hz := hb.size
    (try simp at hz)
    have kl0 : w.heap.size < w2.heap.size := by omega
    have kn0 : ¬ w.heap.size = w2.heap.size := by omega
    have km0 : ¬ w2.heap.size = w.heap.size := by omega
    have kl1 : w.heap.size + 1 < w2.heap.size := by omega
    have kn1 : ¬ w.heap.size + 1 = w2.heap.size := by omega
    have km1 : ¬ w2.heap.size = w.heap.size + 1 := by omega
    have kl2 : w.heap.size + 1 + 1 < w2.heap.size := by omega
    have kn2 : ¬ w.heap.size + 1 + 1 = w2.heap.size := by omega
    have km2 : ¬ w2.heap.size = w.heap.size + 1 + 1 := by omega
    have kl3 : w.heap.size + 1 + 1 + 1 < w2.heap.size := by omega
    have kn3 : ¬ w.heap.size + 1 + 1 + 1 = w2.heap.size := by omega
    have km3 : ¬ w2.heap.size = w.heap.size + 1 + 1 + 1 := by omega
    have kl4 : w.heap.size + 1 + 1 + 1 + 1 < w2.heap.size := by omega
    have kn4 : ¬ w.heap.size + 1 + 1 + 1 + 1 = w2.heap.size := by omega
    have km4 : ¬ w2.heap.size = w.heap.size + 1 + 1 + 1 + 1 := by omega
    have kl5 : w1.heap.size < w2.heap.size := by omega
    have kn5 : ¬ w1.heap.size = w2.heap.size := by omega
    have km5 : ¬ w2.heap.size = w1.heap.size := by omega
    have HB := Lib.hid (show Below w.heap.size w w2 from by exact HB.out.trans ((show Below _ _ _ from ((Below.refl _ _).alloc (by omega) _)).trans (hb.mono (by first | omega | (simp <;> omega)))))
    have HR := Lib.hid ((show Room _ (w.heap.size + 1 + 1 + 1 + 1) 1 from (HR.out.alloc (by omega) _)).below hb (by first | omega | (simp <;> omega)))
    clear ho hb
    go_wp2
    refine bodyPost_ret (v := .tuple #[.agg #[.int .i64 0, .int .i64 0, .int .i64 0], .bool false]) (by simp [results, Tryd.results137, go_sem, *]) rfl (FrOut.no HG.out ?_)
    (repeat' first | (with_reducible exact HB.out) | with_reducible refine setCells_below _ _ _ ?_ (by first | omega | (simp <;> omega)) | with_reducible refine Below.setCell ?_ (by show _ ≤ _; first | omega | (simp <;> omega) | simp) _ | with_reducible refine Below.alloc ?_ (by first | omega | (simp <;> omega)) _ | with_reducible apply Below.drew)
  · have HG : Hid ((fIn a b c d) = fAdd (fTimes a b).1 (fTimes c d).1) := by show _ = _; simp [fIn, h1, h2]
    go_enter Tryd.func137, Tryd.ntmps137
    go_wp2_with fail
    refine (sptimes_fr a b _).mono ?_
    rintro e w1 ho
    obtain ⟨rfl, hb⟩ := ho.fn
    have kc0 := fun o => hb.cell (p := ⟨w.heap.size, o, none⟩) (by show w.heap.size < _; first | omega | (simp <;> omega))
    have kc1 := fun o => hb.cell (p := ⟨w.heap.size + 1, o, none⟩) (by show w.heap.size + 1 < _; first | omega | (simp <;> omega))
    have kc2 := fun o => hb.cell (p := ⟨w.heap.size + 1 + 1, o, none⟩) (by show w.heap.size + 1 + 1 < _; first | omega | (simp <;> omega))
    have kc3 := fun o => hb.cell (p := ⟨w.heap.size + 1 + 1 + 1, o, none⟩) (by show w.heap.size + 1 + 1 + 1 < _; first | omega | (simp <;> omega))
    have kc4 := fun o => hb.cell (p := ⟨w.heap.size + 1 + 1 + 1 + 1, o, none⟩) (by show w.heap.size + 1 + 1 + 1 + 1 < _; first | omega | (simp <;> omega))
    have kf0 := fun o => hb.frozen (p := ⟨w.heap.size + 1 + 1 + 1 + 1, o, none⟩) (by show w.heap.size + 1 + 1 + 1 + 1 < _; first | omega | (simp <;> omega))
    have hz := hb.size
    (try simp at hz)
    have kl0 : w.heap.size < w1.heap.size := by omega
    have kn0 : ¬ w.heap.size = w1.heap.size := by omega
    have km0 : ¬ w1.heap.size = w.heap.size := by omega
    have kl1 : w.heap.size + 1 < w1.heap.size := by omega
    have kn1 : ¬ w.heap.size + 1 = w1.heap.size := by omega
    have km1 : ¬ w1.heap.size = w.heap.size + 1 := by omega
    have kl2 : w.heap.size + 1 + 1 < w1.heap.size := by omega
    have kn2 : ¬ w.heap.size + 1 + 1 = w1.heap.size := by omega
    have km2 : ¬ w1.heap.size = w.heap.size + 1 + 1 := by omega
    have kl3 : w.heap.size + 1 + 1 + 1 < w1.heap.size := by omega
    have kn3 : ¬ w.heap.size + 1 + 1 + 1 = w1.heap.size := by omega
    have km3 : ¬ w1.heap.size = w.heap.size + 1 + 1 + 1 := by omega
    have kl4 : w.heap.size + 1 + 1 + 1 + 1 < w1.heap.size := by omega
    have kn4 : ¬ w.heap.size + 1 + 1 + 1 + 1 = w1.heap.size := by omega
    have km4 : ¬ w1.heap.size = w.heap.size + 1 + 1 + 1 + 1 := by omega
    have HB := Lib.hid (show Below w.heap.size w w1 from by (repeat' first | exact Below.refl _ _ | apply bl_alloc | apply bl_drewN | apply bl_drew | refine bl_trans ?_ (by assumption) | refine bl_set ?_ (by first | omega | (simp <;> omega)) _))
    have HR := Lib.hid ((show Room _ (w.heap.size + 1 + 1 + 1 + 1) 1 from (Room.new' (by simp) rfl)).below hb (by first | omega | (simp <;> omega)))
    clear ho hb
    go_wp2_with fail
    refine (sptimes_fr c d _).mono ?_
    rintro e w2 ho
    obtain ⟨rfl, hb⟩ := ho.fn
    have kc0 := fun o => hb.cell (p := ⟨w.heap.size, o, none⟩) (by show w.heap.size < _; first | omega | (simp <;> omega))
    have kc1 := fun o => hb.cell (p := ⟨w.heap.size + 1, o, none⟩) (by show w.heap.size + 1 < _; first | omega | (simp <;> omega))
    have kc2 := fun o => hb.cell (p := ⟨w.heap.size + 1 + 1, o, none⟩) (by show w.heap.size + 1 + 1 < _; first | omega | (simp <;> omega))
    have kc3 := fun o => hb.cell (p := ⟨w.heap.size + 1 + 1 + 1, o, none⟩) (by show w.heap.size + 1 + 1 + 1 < _; first | omega | (simp <;> omega))
    have kc4 := fun o => hb.cell (p := ⟨w.heap.size + 1 + 1 + 1 + 1, o, none⟩) (by show w.heap.size + 1 + 1 + 1 + 1 < _; first | omega | (simp <;> omega))
    have kc5 := fun o => hb.cell (p := ⟨w1.heap.size, o, none⟩) (by show w1.heap.size < _; first | omega | (simp <;> omega))
    have kf0 := fun o => hb.frozen (p := ⟨w.heap.size + 1 + 1 + 1 + 1, o, none⟩) (by show w.heap.size + 1 + 1 + 1 + 1 < _; first | omega | (simp <;> omega))
    have hz := hb.size
    (try simp at hz)
    have kl0 : w.heap.size < w2.heap.size := by omega
    have kn0 : ¬ w.heap.size = w2.heap.size := by omega
    have km0 : ¬ w2.heap.size = w.heap.size := by omega
    have kl1 : w.heap.size + 1 < w2.heap.size := by omega
    have kn1 : ¬ w.heap.size + 1 = w2.heap.size := by omega
    have km1 : ¬ w2.heap.size = w.heap.size + 1 := by omega
    have kl2 : w.heap.size + 1 + 1 < w2.heap.size := by omega
    have kn2 : ¬ w.heap.size + 1 + 1 = w2.heap.size := by omega
    have km2 : ¬ w2.heap.size = w.heap.size + 1 + 1 := by omega
    have kl3 : w.heap.size + 1 + 1 + 1 < w2.heap.size := by omega
    have kn3 : ¬ w.heap.size + 1 + 1 + 1 = w2.heap.size := by omega
    have km3 : ¬ w2.heap.size = w.heap.size + 1 + 1 + 1 := by omega
    have kl4 : w.heap.size + 1 + 1 + 1 + 1 < w2.heap.size := by omega
    have kn4 : ¬ w.heap.size + 1 + 1 + 1 + 1 = w2.heap.size := by omega
    have km4 : ¬ w2.heap.size = w.heap.size + 1 + 1 + 1 + 1 := by omega
    have kl5 : w1.heap.size < w2.heap.size := by omega
    have kn5 : ¬ w1.heap.size = w2.heap.size := by omega
    have km5 : ¬ w2.heap.size = w1.heap.size := by omega
    have HB := Lib.hid (show Below w.heap.size w w2 from by exact HB.out.trans ((show Below _ _ _ from ((Below.refl _ _).alloc (by omega) _)).trans (hb.mono (by first | omega | (simp <;> omega)))))
    have HR := Lib.hid ((show Room _ (w.heap.size + 1 + 1 + 1 + 1) 1 from (HR.out.alloc (by omega) _)).below hb (by first | omega | (simp <;> omega)))
    clear ho hb
    go_wp2_with fail
    refine (spadd_fr _ _ _).mono ?_
    rintro e w3 ho
    rw [← HG.out] at ho
    obtain ⟨rfl, hb⟩ := ho.fn
    have kc0 := fun o => hb.cell (p := ⟨w.heap.size + 1 + 1 + 1 + 1, o, none⟩) (by show w.heap.size + 1 + 1 + 1 + 1 < _; first | omega | (simp <;> omega))
    have kf0 := fun o => hb.frozen (p := ⟨w.heap.size + 1 + 1 + 1 + 1, o, none⟩) (by show w.heap.size + 1 + 1 + 1 + 1 < _; first | omega | (simp <;> omega))
    have hz := hb.size
    (try simp at hz)
    have kl0 : w.heap.size + 1 + 1 + 1 + 1 < w3.heap.size := by omega
    have kn0 : ¬ w.heap.size + 1 + 1 + 1 + 1 = w3.heap.size := by omega
    have km0 : ¬ w3.heap.size = w.heap.size + 1 + 1 + 1 + 1 := by omega
    have HB := Lib.hid (show Below w.heap.size w w3 from by exact HB.out.trans ((show Below _ _ _ from ((Below.refl _ _).alloc (by omega) _)).trans (hb.mono (by first | omega | (simp <;> omega)))))
    have HR := Lib.hid ((show Room _ (w.heap.size + 1 + 1 + 1 + 1) 1 from (HR.out.alloc (by omega) _)).below hb (by first | omega | (simp <;> omega)))
    clear ho hb
    go_wp2
    refine bodyPost_ret (v := .tuple #[.agg #[.int .i64 ((fIn a b c d)).1.re, .int .i64 ((fIn a b c d)).1.im, .int .i64 ((fIn a b c d)).1.den], .bool ((fIn a b c d)).2]) (by simp [results, Tryd.results137, go_sem, *]) rfl (FrOut.self ?_)
    (repeat' first | (with_reducible exact HB.out) | with_reducible refine setCells_below _ _ _ ?_ (by first | omega | (simp <;> omega)) | with_reducible refine Below.setCell ?_ (by show _ ≤ _; first | omega | (simp <;> omega) | simp) _ | with_reducible refine Below.alloc ?_ (by first | omega | (simp <;> omega)) _ | with_reducible apply Below.drew)
end Go.Proofs.YtmcokdiopcpifaaDoor
