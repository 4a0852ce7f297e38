/- Contracts: rotators and filters. -/
import Derived.Test.YtmcokdiopcpifaaDoorPlX
import Derived.Test.YtmcokdiopcpifaaDoorPlY
import Derived.Test.YtmcokdiopcpifaaDoorPlG4
set_option maxRecDepth 100000
namespace Go.Proofs.YtmcokdiopcpifaaDoor
open Go.RowKit Pol
theorem DirOut.f {p q : Int} {w w' : World} {e : Ending} (h : DirOut p q w e w') (hd : dirB p q = false) : e = .returned (.tuple #[.agg #[.int .i64 0, .int .i64 0, .int .i64 0], .agg #[.int .i64 0, .int .i64 0, .int .i64 0], .bool false]) ∧ Below w.heap.size w w' := ⟨by rw [h.1, if_neg (by rw [hd]; simp)], h.2⟩
theorem DirOut.t {p q : Int} {w w' : World} {e : Ending} (h : DirOut p q w e w') (hd : dirB p q = true) : e = .returned (.tuple #[.agg #[.int .i64 (dC p q).re, .int .i64 (dC p q).im, .int .i64 (dC p q).den], .agg #[.int .i64 (dS p q).re, .int .i64 (dS p q).im, .int .i64 (dS p q).den], .bool true]) ∧ Below w.heap.size w w' := ⟨by rw [h.1, if_pos hd], h.2⟩
theorem M4Out.self {g : M4 × Bool} {w w' : World} (hb : Below w.heap.size w w') : M4Out g w (.returned (.tuple #[.agg #[.int .i64 g.1.a.re, .int .i64 g.1.a.im, .int .i64 g.1.a.den, .int .i64 g.1.b.re, .int .i64 g.1.b.im, .int .i64 g.1.b.den, .int .i64 g.1.c.re, .int .i64 g.1.c.im, .int .i64 g.1.c.den, .int .i64 g.1.d.re, .int .i64 g.1.d.im, .int .i64 g.1.d.den], .bool g.2])) w' := ⟨rfl, hb⟩
theorem Room.drew {w : World} {N n : Nat} (h : Room w N n) : Room w.drew N n := h
def gRot (p q : Int) : M4 × Bool := if dirB p q = true then (⟨dC p q, (⟨-(dS p q).re, (dS p q).im, (dS p q).den⟩ : Fr), dS p q, dC p q⟩, true) else (m4z, false)
theorem dS_im (p q : Int) : (dS p q).im = 0 := low_im0 _ _
theorem dS_bd (p q : Int) : -2000000000 ≤ (dS p q).re ∧ (dS p q).re ≤ 2000000000 := low_bd _ _ _
set_option maxRecDepth 100000 in
set_option maxHeartbeats 4000000 in
theorem irot_any (p q : Int) (w : World) :
    Calls Tryd.prog 104 #[.int .i64 p, .int .i64 q] w (M4Out (gRot p q) w) := by
  cases hd : dirB p q
  · have HD := Lib.hid hd
    have HG : Hid (gRot p q = (m4z, false)) := by show _ = _; unfold gRot; rw [if_neg (by rw [hd]; simp)]
    clear hd
    go_enter Tryd.func104, Tryd.ntmps104
    go_wp2_with fail
    refine (idir_any p q _).mono ?_
    rintro e w1 ho
    obtain ⟨rfl, hb⟩ := ho.f HD.out
    have kc0 := fun o => hb.cell (p := ⟨w.heap.size, o, none⟩) (by show w.heap.size < _; first | omega | (simp <;> omega))
    have kf0 := fun o => hb.frozen (p := ⟨w.heap.size, o, none⟩) (by show w.heap.size < _; first | omega | (simp <;> omega))
    have hz := hb.size
    simp at hz
    have kl0 : w.heap.size < w1.heap.size := by omega
    have kn0 : ¬ w.heap.size = w1.heap.size := by omega
    have kn1 : ¬ w.heap.size = w1.heap.size + 1 := by omega
    have kn2 : ¬ w.heap.size = w1.heap.size + 1 + 1 := by omega
    have kn3 : ¬ w.heap.size = w1.heap.size + 2 := by omega
    have HR := Lib.hid (show Room w1 w.heap.size 4 from Room.below (Room.new' rfl rfl) hb (by simp))
    have HB := Lib.hid (show Below w.heap.size w w1 from by (repeat' first | exact Below.refl _ _ | apply bl_alloc | apply bl_drewN | apply bl_drew | refine bl_trans ?_ (by assumption) | refine bl_set ?_ (by first | omega | (simp <;> omega)) _))
    clear ho hb
    go_wp2
    refine bodyPost_ret (v := .tuple #[.agg #[.int .i64 0, .int .i64 0, .int .i64 0, .int .i64 0, .int .i64 0, .int .i64 0, .int .i64 0, .int .i64 0, .int .i64 0, .int .i64 0, .int .i64 0, .int .i64 0], .bool false]) ?_ rfl (M4Out.no HG.out ?_)
    · exact Eq.trans (results_cell_mid2 Tryd.results104 _ _ w.heap.size [.int .i64 0, .int .i64 0, .int .i64 0, .int .i64 0, .int .i64 0, .int .i64 0, .int .i64 0, .int .i64 0, .int .i64 0, .int .i64 0, .int .i64 0, .int .i64 0] _ (by rfl) (by ((repeat' first | (with_reducible refine World.rangeAt_setCells_same _ (w.heap.size) 0 [.int .i64 0, .int .i64 0, .int .i64 0, .int .i64 0, .int .i64 0, .int .i64 0, .int .i64 0, .int .i64 0, .int .i64 0, .int .i64 0, .int .i64 0, .int .i64 0] ?_) | (with_reducible refine World.rangeAt_alloc ?_ _) | (with_reducible refine (World.rangeAt_drew _ _ _ _).2 ?_)); first | exact HR.out.there | (have hh := fun W h => World.rangeAt_setCells_same W (w.heap.size) 0 [.int .i64 0, .int .i64 0, .int .i64 0, .int .i64 0, .int .i64 0, .int .i64 0, .int .i64 0, .int .i64 0, .int .i64 0, .int .i64 0, .int .i64 0, .int .i64 0] h; simp only [World.setCells, Nat.zero_add, Nat.reduceAdd] at hh; exact hh _ HR.out.there))) Tryd.underlying41 rfl (by kernel_rfl)) rfl
    · (repeat' first | (with_reducible exact HB.out) | with_reducible refine setCells_below _ _ _ ?_ (by first | omega | (simp <;> omega)) | with_reducible refine Below.setCell ?_ (by show _ ≤ _; first | omega | (simp <;> omega) | simp) _ | with_reducible refine Below.alloc ?_ (by first | omega | (simp <;> omega)) _ | with_reducible apply Below.drew)
  · have HD := Lib.hid hd
    have HG : Hid (gRot p q = (⟨dC p q, (⟨-(dS p q).re, (dS p q).im, (dS p q).den⟩ : Fr), dS p q, dC p q⟩, true)) := by show _ = _; unfold gRot; rw [if_pos hd]
    clear hd
    have HI := Lib.hid (dS_im p q)
    obtain ⟨l1, l2⟩ := dS_bd p q
    go_enter Tryd.func104, Tryd.ntmps104
    go_wp2_with fail
    refine (idir_any p q _).mono ?_
    rintro e w1 ho
    obtain ⟨rfl, hb⟩ := ho.t HD.out
    have kc0 := fun o => hb.cell (p := ⟨w.heap.size, o, none⟩) (by show w.heap.size < _; first | omega | (simp <;> omega))
    have kf0 := fun o => hb.frozen (p := ⟨w.heap.size, o, none⟩) (by show w.heap.size < _; first | omega | (simp <;> omega))
    have hz := hb.size
    simp at hz
    have kl0 : w.heap.size < w1.heap.size := by omega
    have kn0 : ¬ w.heap.size = w1.heap.size := by omega
    have kn1 : ¬ w.heap.size = w1.heap.size + 1 := by omega
    have kn2 : ¬ w.heap.size = w1.heap.size + 1 + 1 := by omega
    have kn3 : ¬ w.heap.size = w1.heap.size + 2 := by omega
    have HR := Lib.hid (show Room w1 w.heap.size 4 from Room.below (Room.new' rfl rfl) hb (by simp))
    have HB := Lib.hid (show Below w.heap.size w w1 from by (repeat' first | exact Below.refl _ _ | apply bl_alloc | apply bl_drewN | apply bl_drew | refine bl_trans ?_ (by assumption) | refine bl_set ?_ (by first | omega | (simp <;> omega)) _))
    clear ho hb
    go_wp2
    go_region_held3 (fun w' => w'.cell? ⟨w1.heap.size, 0, none⟩ = some (.int .i64 (dC p q).re) ∧ w'.cell? ⟨w1.heap.size, 1, none⟩ = some (.int .i64 (dC p q).im) ∧ w'.cell? ⟨w1.heap.size, 2, none⟩ = some (.int .i64 (dC p q).den) ∧ w'.cell? ⟨w1.heap.size + 1, 0, none⟩ = some (.int .i64 (dS p q).re) ∧ w'.cell? ⟨w1.heap.size + 1, 1, none⟩ = some (.int .i64 (dS p q).im) ∧ w'.cell? ⟨w1.heap.size + 1, 2, none⟩ = some (.int .i64 (dS p q).den)) (((try dsimp only); (refine ⟨?_, ?_, ?_, ?_, ?_, ?_⟩ <;> first | (simp [*, cell_new_at]; done) | (go_keep; done)))) (first | (go_at_call 134; (with_reducible refine (opposite_any (dS p q) l1 l2 HI.out _).mono ?_); rintro e w2 ⟨rfl, hb⟩; have HR := Lib.hid (Room.below (show Room _ w.heap.size 4 from Room.drew ((HR.out.alloc (by omega) _).alloc (by simp; omega) _)) hb (by simp; omega)); have HB := Lib.hid (show Below w.heap.size w w2 from HB.out.trans ((show Below _ _ _ from (((Below.refl _ _).alloc (by omega) _).alloc (by simp; omega) _).drew).trans (hb.mono (by simp; omega)))); have ka0 := fun o => hb.cell (p := ⟨w1.heap.size, o, none⟩) (by show w1.heap.size < _; simp); have ka1 := fun o => hb.cell (p := ⟨w1.heap.size + 1, o, none⟩) (by show w1.heap.size + 1 < _; simp); have kr := fun o => hb.cell (p := ⟨w.heap.size, o, none⟩) (by show w.heap.size < _; simp; omega); have krf := fun o => hb.frozen (p := ⟨w.heap.size, o, none⟩) (by show w.heap.size < _; simp; omega); have hz2 := hb.size; (try simp at hz2); clear hb))
    go_wp2
    refine bodyPost_ret (v := .tuple #[.agg #[.int .i64 (dC p q).re, .int .i64 (dC p q).im, .int .i64 (dC p q).den, .int .i64 (-(dS p q).re), .int .i64 (dS p q).im, .int .i64 (dS p q).den, .int .i64 (dS p q).re, .int .i64 (dS p q).im, .int .i64 (dS p q).den, .int .i64 (dC p q).re, .int .i64 (dC p q).im, .int .i64 (dC p q).den], .bool true]) ?_ rfl (M4Out.yes (f := ⟨dC p q, (⟨-(dS p q).re, (dS p q).im, (dS p q).den⟩ : Fr), dS p q, dC p q⟩) (by rw [HG.out]) (by rw [HG.out]) ?_)
    · exact Eq.trans (results_cell_mid2 Tryd.results104 _ _ w.heap.size [.int .i64 (dC p q).re, .int .i64 (dC p q).im, .int .i64 (dC p q).den, .int .i64 (-(dS p q).re), .int .i64 (dS p q).im, .int .i64 (dS p q).den, .int .i64 (dS p q).re, .int .i64 (dS p q).im, .int .i64 (dS p q).den, .int .i64 (dC p q).re, .int .i64 (dC p q).im, .int .i64 (dC p q).den] _ (by rfl) (by ((repeat' first | (with_reducible refine World.rangeAt_setCells_same _ (w.heap.size) 0 [.int .i64 (dC p q).re, .int .i64 (dC p q).im, .int .i64 (dC p q).den, .int .i64 (-(dS p q).re), .int .i64 (dS p q).im, .int .i64 (dS p q).den, .int .i64 (dS p q).re, .int .i64 (dS p q).im, .int .i64 (dS p q).den, .int .i64 (dC p q).re, .int .i64 (dC p q).im, .int .i64 (dC p q).den] ?_) | (with_reducible refine World.rangeAt_alloc ?_ _) | (with_reducible refine (World.rangeAt_drew _ _ _ _).2 ?_)); first | exact HR.out.there | (have hh := fun W h => World.rangeAt_setCells_same W (w.heap.size) 0 [.int .i64 (dC p q).re, .int .i64 (dC p q).im, .int .i64 (dC p q).den, .int .i64 (-(dS p q).re), .int .i64 (dS p q).im, .int .i64 (dS p q).den, .int .i64 (dS p q).re, .int .i64 (dS p q).im, .int .i64 (dS p q).den, .int .i64 (dC p q).re, .int .i64 (dC p q).im, .int .i64 (dC p q).den] h; simp only [World.setCells, Nat.zero_add, Nat.reduceAdd] at hh; exact hh _ HR.out.there))) Tryd.underlying41 rfl (by kernel_rfl)) rfl
    · (repeat' first | (with_reducible exact HB.out) | with_reducible refine setCells_below _ _ _ ?_ (by first | omega | (simp <;> omega)) | with_reducible refine Below.setCell ?_ (by show _ ≤ _; first | omega | (simp <;> omega) | simp) _ | with_reducible refine Below.alloc ?_ (by first | omega | (simp <;> omega)) _ | with_reducible apply Below.drew)
set_option maxRecDepth 100000 in
set_option maxHeartbeats 4000000 in
theorem srot_any (p q : Int) (w : World) :
    Calls Tryd.prog 105 #[.int .i64 p, .int .i64 q] w (M4Out (gRot p q) w) := by
  cases hd : dirB p q
  · have HD := Lib.hid hd
    have HG : Hid (gRot p q = g4 ⟨0, 0, 0⟩ ⟨0, 0, 0⟩ ⟨0, 0, 0⟩ ⟨0, 0, 0⟩ false) := by show _ = _; unfold gRot g4; rw [if_neg (by rw [hd]; simp)]; rfl
    clear hd
    go_enter Tryd.func105, Tryd.ntmps105
    go_wp2_with fail
    refine (sdir_any p q _).mono ?_
    rintro e w1 ho
    obtain ⟨rfl, hb⟩ := ho.f HD.out
    have kc0 := fun o => hb.cell (p := ⟨w.heap.size, o, none⟩) (by show w.heap.size < _; first | omega | (simp <;> omega))
    have kf0 := fun o => hb.frozen (p := ⟨w.heap.size, o, none⟩) (by show w.heap.size < _; first | omega | (simp <;> omega))
    have hz := hb.size
    simp at hz
    have kl0 : w.heap.size < w1.heap.size := by omega
    have kn0 : ¬ w.heap.size = w1.heap.size := by omega
    have kn1 : ¬ w.heap.size = w1.heap.size + 1 := by omega
    have kn2 : ¬ w.heap.size = w1.heap.size + 1 + 1 := by omega
    have kn3 : ¬ w.heap.size = w1.heap.size + 2 := by omega
    have HR := Lib.hid (show Room w1 w.heap.size 4 from Room.below (Room.new' rfl rfl) hb (by simp))
    have HB := Lib.hid (show Below w.heap.size w w1 from by (repeat' first | exact Below.refl _ _ | apply bl_alloc | apply bl_drewN | apply bl_drew | refine bl_trans ?_ (by assumption) | refine bl_set ?_ (by first | omega | (simp <;> omega)) _))
    clear ho hb
    go_wp2_with fail
    with_reducible refine (l5Four_any ⟨0, 0, 0⟩ ⟨0, 0, 0⟩ ⟨0, 0, 0⟩ ⟨0, 0, 0⟩ false _).mono ?_
    rintro e w2 ho
    rw [← HG.out] at ho
    obtain ⟨rfl, hb⟩ := ho.fn
    have hb3 : Below w1.heap.size w1 w2 := Below.trans ((((Below.refl _ _).alloc (by omega) _).alloc (by simp) _).alloc (by simp <;> omega) _) (hb.mono (by simp <;> omega))
    have kr := fun o => hb3.cell (p := ⟨w.heap.size, o, none⟩) kl0
    have krf := fun o => hb3.frozen (p := ⟨w.heap.size, o, none⟩) kl0
    have HR := Lib.hid (HR.out.below hb3 kl0)
    have HB := Lib.hid (show Below w.heap.size w w2 from HB.out.trans (hb3.mono HB.out.size))
    clear hb3
    clear ho hb
    go_wp2
    refine bodyPost_ret (v := .tuple #[.agg #[.int .i64 (gRot p q).1.a.re, .int .i64 (gRot p q).1.a.im, .int .i64 (gRot p q).1.a.den, .int .i64 (gRot p q).1.b.re, .int .i64 (gRot p q).1.b.im, .int .i64 (gRot p q).1.b.den, .int .i64 (gRot p q).1.c.re, .int .i64 (gRot p q).1.c.im, .int .i64 (gRot p q).1.c.den, .int .i64 (gRot p q).1.d.re, .int .i64 (gRot p q).1.d.im, .int .i64 (gRot p q).1.d.den], .bool (gRot p q).2]) ?_ rfl (M4Out.self ?_)
    · exact Eq.trans (results_cell_mid2 Tryd.results105 _ _ w.heap.size [.int .i64 (gRot p q).1.a.re, .int .i64 (gRot p q).1.a.im, .int .i64 (gRot p q).1.a.den, .int .i64 (gRot p q).1.b.re, .int .i64 (gRot p q).1.b.im, .int .i64 (gRot p q).1.b.den, .int .i64 (gRot p q).1.c.re, .int .i64 (gRot p q).1.c.im, .int .i64 (gRot p q).1.c.den, .int .i64 (gRot p q).1.d.re, .int .i64 (gRot p q).1.d.im, .int .i64 (gRot p q).1.d.den] _ (by rfl) (by ((repeat' first | (with_reducible refine World.rangeAt_setCells_same _ (w.heap.size) 0 [.int .i64 (gRot p q).1.a.re, .int .i64 (gRot p q).1.a.im, .int .i64 (gRot p q).1.a.den, .int .i64 (gRot p q).1.b.re, .int .i64 (gRot p q).1.b.im, .int .i64 (gRot p q).1.b.den, .int .i64 (gRot p q).1.c.re, .int .i64 (gRot p q).1.c.im, .int .i64 (gRot p q).1.c.den, .int .i64 (gRot p q).1.d.re, .int .i64 (gRot p q).1.d.im, .int .i64 (gRot p q).1.d.den] ?_) | (with_reducible refine World.rangeAt_alloc ?_ _) | (with_reducible refine (World.rangeAt_drew _ _ _ _).2 ?_)); first | exact HR.out.there | (have hh := fun W h => World.rangeAt_setCells_same W (w.heap.size) 0 [.int .i64 (gRot p q).1.a.re, .int .i64 (gRot p q).1.a.im, .int .i64 (gRot p q).1.a.den, .int .i64 (gRot p q).1.b.re, .int .i64 (gRot p q).1.b.im, .int .i64 (gRot p q).1.b.den, .int .i64 (gRot p q).1.c.re, .int .i64 (gRot p q).1.c.im, .int .i64 (gRot p q).1.c.den, .int .i64 (gRot p q).1.d.re, .int .i64 (gRot p q).1.d.im, .int .i64 (gRot p q).1.d.den] h; simp only [World.setCells, Nat.zero_add, Nat.reduceAdd] at hh; exact hh _ HR.out.there))) Tryd.underlying41 rfl (by kernel_rfl)) rfl
    · (repeat' first | (with_reducible exact HB.out) | with_reducible refine setCells_below _ _ _ ?_ (by first | omega | (simp <;> omega)) | with_reducible refine Below.setCell ?_ (by show _ ≤ _; first | omega | (simp <;> omega) | simp) _ | with_reducible refine Below.alloc ?_ (by first | omega | (simp <;> omega)) _ | with_reducible apply Below.drew)
  · have HD := Lib.hid hd
    have HG : Hid (gRot p q = g4 (dC p q) ⟨-(dS p q).re, 0, (dS p q).den⟩ (dS p q) (dC p q) true) := by show _ = _; unfold gRot g4; rw [if_pos hd, if_pos rfl, dS_im]
    clear hd
    obtain ⟨l1, l2⟩ := dS_bd p q
    go_enter Tryd.func105, Tryd.ntmps105
    go_wp2_with fail
    refine (sdir_any p q _).mono ?_
    rintro e w1 ho
    obtain ⟨rfl, hb⟩ := ho.t HD.out
    have kc0 := fun o => hb.cell (p := ⟨w.heap.size, o, none⟩) (by show w.heap.size < _; first | omega | (simp <;> omega))
    have kf0 := fun o => hb.frozen (p := ⟨w.heap.size, o, none⟩) (by show w.heap.size < _; first | omega | (simp <;> omega))
    have hz := hb.size
    simp at hz
    have kl0 : w.heap.size < w1.heap.size := by omega
    have kn0 : ¬ w.heap.size = w1.heap.size := by omega
    have kn1 : ¬ w.heap.size = w1.heap.size + 1 := by omega
    have kn2 : ¬ w.heap.size = w1.heap.size + 1 + 1 := by omega
    have kn3 : ¬ w.heap.size = w1.heap.size + 2 := by omega
    have HR := Lib.hid (show Room w1 w.heap.size 4 from Room.below (Room.new' rfl rfl) hb (by simp))
    have HB := Lib.hid (show Below w.heap.size w w1 from by (repeat' first | exact Below.refl _ _ | apply bl_alloc | apply bl_drewN | apply bl_drew | refine bl_trans ?_ (by assumption) | refine bl_set ?_ (by first | omega | (simp <;> omega)) _))
    clear ho hb
    go_wp2_with fail
    with_reducible refine (l5Four_any (dC p q) ⟨-(dS p q).re, 0, (dS p q).den⟩ (dS p q) (dC p q) true _).mono ?_
    rintro e w2 ho
    rw [← HG.out] at ho
    obtain ⟨rfl, hb⟩ := ho.fn
    have hb3 : Below w1.heap.size w1 w2 := Below.trans ((((Below.refl _ _).alloc (by omega) _).alloc (by simp) _).alloc (by simp <;> omega) _) (hb.mono (by simp <;> omega))
    have kr := fun o => hb3.cell (p := ⟨w.heap.size, o, none⟩) kl0
    have krf := fun o => hb3.frozen (p := ⟨w.heap.size, o, none⟩) kl0
    have HR := Lib.hid (HR.out.below hb3 kl0)
    have HB := Lib.hid (show Below w.heap.size w w2 from HB.out.trans (hb3.mono HB.out.size))
    clear hb3
    clear ho hb
    go_wp2
    refine bodyPost_ret (v := .tuple #[.agg #[.int .i64 (gRot p q).1.a.re, .int .i64 (gRot p q).1.a.im, .int .i64 (gRot p q).1.a.den, .int .i64 (gRot p q).1.b.re, .int .i64 (gRot p q).1.b.im, .int .i64 (gRot p q).1.b.den, .int .i64 (gRot p q).1.c.re, .int .i64 (gRot p q).1.c.im, .int .i64 (gRot p q).1.c.den, .int .i64 (gRot p q).1.d.re, .int .i64 (gRot p q).1.d.im, .int .i64 (gRot p q).1.d.den], .bool (gRot p q).2]) ?_ rfl (M4Out.self ?_)
    · exact Eq.trans (results_cell_mid2 Tryd.results105 _ _ w.heap.size [.int .i64 (gRot p q).1.a.re, .int .i64 (gRot p q).1.a.im, .int .i64 (gRot p q).1.a.den, .int .i64 (gRot p q).1.b.re, .int .i64 (gRot p q).1.b.im, .int .i64 (gRot p q).1.b.den, .int .i64 (gRot p q).1.c.re, .int .i64 (gRot p q).1.c.im, .int .i64 (gRot p q).1.c.den, .int .i64 (gRot p q).1.d.re, .int .i64 (gRot p q).1.d.im, .int .i64 (gRot p q).1.d.den] _ (by rfl) (by ((repeat' first | (with_reducible refine World.rangeAt_setCells_same _ (w.heap.size) 0 [.int .i64 (gRot p q).1.a.re, .int .i64 (gRot p q).1.a.im, .int .i64 (gRot p q).1.a.den, .int .i64 (gRot p q).1.b.re, .int .i64 (gRot p q).1.b.im, .int .i64 (gRot p q).1.b.den, .int .i64 (gRot p q).1.c.re, .int .i64 (gRot p q).1.c.im, .int .i64 (gRot p q).1.c.den, .int .i64 (gRot p q).1.d.re, .int .i64 (gRot p q).1.d.im, .int .i64 (gRot p q).1.d.den] ?_) | (with_reducible refine World.rangeAt_alloc ?_ _) | (with_reducible refine (World.rangeAt_drew _ _ _ _).2 ?_)); first | exact HR.out.there | (have hh := fun W h => World.rangeAt_setCells_same W (w.heap.size) 0 [.int .i64 (gRot p q).1.a.re, .int .i64 (gRot p q).1.a.im, .int .i64 (gRot p q).1.a.den, .int .i64 (gRot p q).1.b.re, .int .i64 (gRot p q).1.b.im, .int .i64 (gRot p q).1.b.den, .int .i64 (gRot p q).1.c.re, .int .i64 (gRot p q).1.c.im, .int .i64 (gRot p q).1.c.den, .int .i64 (gRot p q).1.d.re, .int .i64 (gRot p q).1.d.im, .int .i64 (gRot p q).1.d.den] h; simp only [World.setCells, Nat.zero_add, Nat.reduceAdd] at hh; exact hh _ HR.out.there))) Tryd.underlying41 rfl (by kernel_rfl)) rfl
    · (repeat' first | (with_reducible exact HB.out) | with_reducible refine setCells_below _ _ _ ?_ (by first | omega | (simp <;> omega)) | with_reducible refine Below.setCell ?_ (by show _ ≤ _; first | omega | (simp <;> omega) | simp) _ | with_reducible refine Below.alloc ?_ (by first | omega | (simp <;> omega)) _ | with_reducible apply Below.drew)
end Go.Proofs.YtmcokdiopcpifaaDoor
