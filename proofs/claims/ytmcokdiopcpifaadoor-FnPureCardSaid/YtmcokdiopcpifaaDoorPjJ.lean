/- Contracts: vectors, on both sides. -/
import Derived.Test.YtmcokdiopcpifaaDoorPjG8
set_option maxRecDepth 100000
namespace Go.Proofs.YtmcokdiopcpifaaDoor
open Go.RowKit Pol
/-- What a call hands back that makes a vector. -/
def J2Out (g : J2 × Bool) (w : World) (e : Ending) (w' : World) : Prop :=
  e = .returned (.tuple #[.agg #[.int .i64 g.1.x.re, .int .i64 g.1.x.im, .int .i64 g.1.x.den, .int .i64 g.1.y.re, .int .i64 g.1.y.im, .int .i64 g.1.y.den], .bool g.2]) ∧ Below w.heap.size w w'
theorem J2Out.yes {g : J2 × Bool} {f : J2} {w w' : World} (h2 : g.2 = true) (h1 : f = g.1) (hb : Below w.heap.size w w') : J2Out g w (.returned (.tuple #[.agg #[.int .i64 f.x.re, .int .i64 f.x.im, .int .i64 f.x.den, .int .i64 f.y.re, .int .i64 f.y.im, .int .i64 f.y.den], .bool true])) w' :=
  ⟨by rw [h1, h2], hb⟩
theorem J2Out.no {g : J2 × Bool} {w w' : World} (h2 : g = (j2z, false)) (hb : Below w.heap.size w w') : J2Out g w (.returned (.tuple #[.agg #[.int .i64 0, .int .i64 0, .int .i64 0, .int .i64 0, .int .i64 0, .int .i64 0], .bool false])) w' :=
  ⟨by rw [h2]; rfl, hb⟩
theorem J2Out.self {g : J2 × Bool} {w w' : World} (hb : Below w.heap.size w w') : J2Out g w (.returned (.tuple #[.agg #[.int .i64 g.1.x.re, .int .i64 g.1.x.im, .int .i64 g.1.x.den, .int .i64 g.1.y.re, .int .i64 g.1.y.im, .int .i64 g.1.y.den], .bool g.2])) w' := ⟨rfl, hb⟩
theorem J2Out.fn {g : J2 × Bool} {w w' : World} {e : Ending} (h : J2Out g w e w') : e = .returned (.tuple #[.agg #[.int .i64 g.1.x.re, .int .i64 g.1.x.im, .int .i64 g.1.x.den, .int .i64 g.1.y.re, .int .i64 g.1.y.im, .int .i64 g.1.y.den], .bool g.2]) ∧ Below w.heap.size w w' := h
theorem FrOut.self {g : Fr × Bool} {w w' : World} (hb : Below w.heap.size w w') : FrOut g w (.returned (.tuple #[.agg #[.int .i64 g.1.re, .int .i64 g.1.im, .int .i64 g.1.den], .bool g.2])) w' := ⟨g.1, g.2, rfl, rfl, hb⟩
theorem jv_no1 {a : J2} (h : vld a.x = false) : jv a = false := by unfold jv; rw [h]; rfl
theorem jv_y {a : J2} (h : vld a.x = true) : jv a = vld a.y := by unfold jv; rw [h]; rfl
set_option maxHeartbeats 2000000 in
theorem ijv_any (a : J2) (w : World) :
    Calls Tryd.prog 40 #[.agg #[.int .i64 a.x.re, .int .i64 a.x.im, .int .i64 a.x.den, .int .i64 a.y.re, .int .i64 a.y.im, .int .i64 a.y.den]] w fun e w' => e = .returned (.bool (jv a)) ∧ Below w.heap.size w w' := by
  cases hx : vld a.x
  · have HG := Lib.hid (jv_no1 hx)
    go_enter Tryd.func40, Tryd.ntmps40
    go_wp2_with (go_at_call 86; (with_reducible refine (valid_fb hx _).mono ?_); rintro e w1 ⟨rfl, hb⟩; have hb' := hb; obtain ⟨hc, hf, hz⟩ := bcellk (B := w.heap.size + 1) hb (by first | omega | (simp <;> omega)))
    go_ret
    exact ⟨ret_bool (by simp [HG.out]), by (repeat' first | exact Below.refl _ _ | apply bl_alloc | apply bl_drewN | apply bl_drew | refine bl_trans ?_ (by assumption) | refine bl_set ?_ (by first | omega | (simp <;> omega)) _)⟩
  · cases hy : vld a.y
    · have HG := Lib.hid ((jv_y hx).trans hy)
      go_enter Tryd.func40, Tryd.ntmps40
      go_wp2_with (go_at_call 86; (first | (with_reducible refine (valid_fb hx _).mono ?_) | (with_reducible refine (valid_fb hy _).mono ?_)); rintro e w1 ⟨rfl, hb⟩; have hb' := hb; obtain ⟨hc, hf, hz⟩ := bcellk (B := w.heap.size + 1) hb (by first | omega | (simp <;> omega)))
      go_ret
      exact ⟨ret_bool (by simp [HG.out]), by (repeat' first | exact Below.refl _ _ | apply bl_alloc | apply bl_drewN | apply bl_drew | refine bl_trans ?_ (by assumption) | refine bl_set ?_ (by first | omega | (simp <;> omega)) _)⟩
    · have HG := Lib.hid ((jv_y hx).trans hy)
      go_enter Tryd.func40, Tryd.ntmps40
      go_wp2_with (go_at_call 86; (first | (with_reducible refine (valid_fb hx _).mono ?_) | (with_reducible refine (valid_fb hy _).mono ?_)); rintro e w1 ⟨rfl, hb⟩; have hb' := hb; obtain ⟨hc, hf, hz⟩ := bcellk (B := w.heap.size + 1) hb (by first | omega | (simp <;> omega)))
      go_ret
      exact ⟨ret_bool (by simp [HG.out]), by (repeat' first | exact Below.refl _ _ | apply bl_alloc | apply bl_drewN | apply bl_drew | refine bl_trans ?_ (by assumption) | refine bl_set ?_ (by first | omega | (simp <;> omega)) _)⟩
set_option maxHeartbeats 2000000 in
theorem sjv_any (a : J2) (w : World) :
    Calls Tryd.prog 92 #[.agg #[.int .i64 a.x.re, .int .i64 a.x.im, .int .i64 a.x.den, .int .i64 a.y.re, .int .i64 a.y.im, .int .i64 a.y.den]] w fun e w' => e = .returned (.bool (jv a)) ∧ Below w.heap.size w w' := by
  cases hx : vld a.x
  · have HG := Lib.hid (jv_no1 hx)
    go_enter Tryd.func92, Tryd.ntmps92
    go_wp2_with (go_at_call 67; (with_reducible refine (svalid_fb hx _).mono ?_); rintro e w1 ⟨rfl, hb⟩; have hb' := hb; obtain ⟨hc, hf, hz⟩ := bcellk (B := w.heap.size + 1) hb (by first | omega | (simp <;> omega)))
    go_ret
    exact ⟨ret_bool (by simp [HG.out]), by (repeat' first | exact Below.refl _ _ | apply bl_alloc | apply bl_drewN | apply bl_drew | refine bl_trans ?_ (by assumption) | refine bl_set ?_ (by first | omega | (simp <;> omega)) _)⟩
  · cases hy : vld a.y
    · have HG := Lib.hid ((jv_y hx).trans hy)
      go_enter Tryd.func92, Tryd.ntmps92
      go_wp2_with (go_at_call 67; (first | (with_reducible refine (svalid_fb hx _).mono ?_) | (with_reducible refine (svalid_fb hy _).mono ?_)); rintro e w1 ⟨rfl, hb⟩; have hb' := hb; obtain ⟨hc, hf, hz⟩ := bcellk (B := w.heap.size + 1) hb (by first | omega | (simp <;> omega)))
      go_ret
      exact ⟨ret_bool (by simp [HG.out]), by (repeat' first | exact Below.refl _ _ | apply bl_alloc | apply bl_drewN | apply bl_drew | refine bl_trans ?_ (by assumption) | refine bl_set ?_ (by first | omega | (simp <;> omega)) _)⟩
    · have HG := Lib.hid ((jv_y hx).trans hy)
      go_enter Tryd.func92, Tryd.ntmps92
      go_wp2_with (go_at_call 67; (first | (with_reducible refine (svalid_fb hx _).mono ?_) | (with_reducible refine (svalid_fb hy _).mono ?_)); rintro e w1 ⟨rfl, hb⟩; have hb' := hb; obtain ⟨hc, hf, hz⟩ := bcellk (B := w.heap.size + 1) hb (by first | omega | (simp <;> omega)))
      go_ret
      exact ⟨ret_bool (by simp [HG.out]), by (repeat' first | exact Below.refl _ _ | apply bl_alloc | apply bl_drewN | apply bl_drew | refine bl_trans ?_ (by assumption) | refine bl_set ?_ (by first | omega | (simp <;> omega)) _)⟩
set_option maxRecDepth 100000 in
set_option maxHeartbeats 8000000 in
theorem sppow2_any (a : Fr) (w : World) :
    Calls Tryd.prog 139 #[.agg #[.int .i64 a.re, .int .i64 a.im, .int .i64 a.den]] w (FrOut (fPow2 a) w) := by
  cases h1 : (fMirror a).2
  · have HG : Hid ((fPow2 a) = (fz, false)) := by show _ = _; simp [fPow2, h1]
    go_enter Tryd.func139, Tryd.ntmps139
    go_wp2_with fail
    refine (spmirror_fr a _).mono ?_
    rintro e w1 ho
    obtain ⟨rfl, hb⟩ := ho.fn
    have kc0 := fun o => hb.cell (p := ⟨w.heap.size, o, none⟩) (by show w.heap.size < _; first | omega | (simp <;> omega))
    have kc1 := fun o => hb.cell (p := ⟨w.heap.size + 1, o, none⟩) (by show w.heap.size + 1 < _; first | omega | (simp <;> omega))
    have kf0 := fun o => hb.frozen (p := ⟨w.heap.size + 1, o, none⟩) (by show w.heap.size + 1 < _; first | omega | (simp <;> omega))
    have hz := hb.size
    (try simp at hz)
    have kl0 : w.heap.size < w1.heap.size := by omega
    have kn0 : ¬ w.heap.size = w1.heap.size := by omega
    have km0 : ¬ w1.heap.size = w.heap.size := by omega
    have kl1 : w.heap.size + 1 < w1.heap.size := by omega
    have kn1 : ¬ w.heap.size + 1 = w1.heap.size := by omega
    have km1 : ¬ w1.heap.size = w.heap.size + 1 := by omega
    have HB := Lib.hid (show Below w.heap.size w w1 from by (repeat' first | exact Below.refl _ _ | apply bl_alloc | apply bl_drewN | apply bl_drew | refine bl_trans ?_ (by assumption) | refine bl_set ?_ (by first | omega | (simp <;> omega)) _))
    have HR := Lib.hid ((show Room _ (w.heap.size + 1) 1 from (Room.new' (by simp) rfl)).below hb (by first | omega | (simp <;> omega)))
    clear ho hb
    go_wp2
    refine bodyPost_ret (v := .tuple #[.agg #[.int .i64 0, .int .i64 0, .int .i64 0], .bool false]) (by simp [results, Tryd.results139, go_sem, *]) rfl (FrOut.no HG.out ?_)
    (repeat' first | (with_reducible exact HB.out) | with_reducible refine setCells_below _ _ _ ?_ (by first | omega | (simp <;> omega)) | with_reducible refine Below.setCell ?_ (by show _ ≤ _; first | omega | (simp <;> omega) | simp) _ | with_reducible refine Below.alloc ?_ (by first | omega | (simp <;> omega)) _ | with_reducible apply Below.drew)
  · have HG : Hid ((fPow2 a) = fTimes a (fMirror a).1) := by show _ = _; simp [fPow2, h1]
    go_enter Tryd.func139, Tryd.ntmps139
    go_wp2_with fail
    refine (spmirror_fr a _).mono ?_
    rintro e w1 ho
    obtain ⟨rfl, hb⟩ := ho.fn
    have kc0 := fun o => hb.cell (p := ⟨w.heap.size, o, none⟩) (by show w.heap.size < _; first | omega | (simp <;> omega))
    have kc1 := fun o => hb.cell (p := ⟨w.heap.size + 1, o, none⟩) (by show w.heap.size + 1 < _; first | omega | (simp <;> omega))
    have kf0 := fun o => hb.frozen (p := ⟨w.heap.size + 1, o, none⟩) (by show w.heap.size + 1 < _; first | omega | (simp <;> omega))
    have hz := hb.size
    (try simp at hz)
    have kl0 : w.heap.size < w1.heap.size := by omega
    have kn0 : ¬ w.heap.size = w1.heap.size := by omega
    have km0 : ¬ w1.heap.size = w.heap.size := by omega
    have kl1 : w.heap.size + 1 < w1.heap.size := by omega
    have kn1 : ¬ w.heap.size + 1 = w1.heap.size := by omega
    have km1 : ¬ w1.heap.size = w.heap.size + 1 := by omega
    have HB := Lib.hid (show Below w.heap.size w w1 from by (repeat' first | exact Below.refl _ _ | apply bl_alloc | apply bl_drewN | apply bl_drew | refine bl_trans ?_ (by assumption) | refine bl_set ?_ (by first | omega | (simp <;> omega)) _))
    have HR := Lib.hid ((show Room _ (w.heap.size + 1) 1 from (Room.new' (by simp) rfl)).below hb (by first | omega | (simp <;> omega)))
    clear ho hb
    go_wp2_with fail
    refine (sptimes_fr a _ _).mono ?_
    rintro e w2 ho
    rw [← HG.out] at ho
    obtain ⟨rfl, hb⟩ := ho.fn
    have kc0 := fun o => hb.cell (p := ⟨w.heap.size + 1, o, none⟩) (by show w.heap.size + 1 < _; first | omega | (simp <;> omega))
    have kf0 := fun o => hb.frozen (p := ⟨w.heap.size + 1, o, none⟩) (by show w.heap.size + 1 < _; first | omega | (simp <;> omega))
    have hz := hb.size
    (try simp at hz)
    have kl0 : w.heap.size + 1 < w2.heap.size := by omega
    have kn0 : ¬ w.heap.size + 1 = w2.heap.size := by omega
    have km0 : ¬ w2.heap.size = w.heap.size + 1 := by omega
    have HB := Lib.hid (show Below w.heap.size w w2 from by exact HB.out.trans ((show Below _ _ _ from ((Below.refl _ _).alloc (by omega) _)).trans (hb.mono (by first | omega | (simp <;> omega)))))
    have HR := Lib.hid ((show Room _ (w.heap.size + 1) 1 from (HR.out.alloc (by omega) _)).below hb (by first | omega | (simp <;> omega)))
    clear ho hb
    go_wp2
    refine bodyPost_ret (v := .tuple #[.agg #[.int .i64 ((fPow2 a)).1.re, .int .i64 ((fPow2 a)).1.im, .int .i64 ((fPow2 a)).1.den], .bool ((fPow2 a)).2]) (by simp [results, Tryd.results139, go_sem, *]) rfl (FrOut.self ?_)
    (repeat' first | (with_reducible exact HB.out) | with_reducible refine setCells_below _ _ _ ?_ (by first | omega | (simp <;> omega)) | with_reducible refine Below.setCell ?_ (by show _ ≤ _; first | omega | (simp <;> omega) | simp) _ | with_reducible refine Below.alloc ?_ (by first | omega | (simp <;> omega)) _ | with_reducible apply Below.drew)
theorem sppower_fr (a : Fr) (w : World) : Calls Tryd.prog 139 #[.agg #[.int .i64 a.re, .int .i64 a.im, .int .i64 a.den]] w (FrOut (fPower a) w) := fPow2_eq a ▸ sppow2_any a w
set_option maxRecDepth 100000 in
set_option maxHeartbeats 8000000 in
theorem sjtim_any (a : J2) (c : Fr) (w : World) :
    Calls Tryd.prog 30 #[.agg #[.int .i64 a.x.re, .int .i64 a.x.im, .int .i64 a.x.den, .int .i64 a.y.re, .int .i64 a.y.im, .int .i64 a.y.den], .agg #[.int .i64 c.re, .int .i64 c.im, .int .i64 c.den]] w (J2Out (jTim a c) w) := by
  cases h1 : (fTimes a.x c).2
  · have HG : Hid ((jTim a c) = (j2z, false)) := by show _ = _; simp [jTim, h1, j2of]
    go_enter Tryd.func30, Tryd.ntmps30
    go_wp2_with fail
    refine (sptimes_fr a.x c _).mono ?_
    rintro e w1 ho
    obtain ⟨rfl, hb⟩ := ho.fn
    have kc0 := fun o => hb.cell (p := ⟨w.heap.size, o, none⟩) (by show w.heap.size < _; first | omega | (simp <;> omega))
    have kc1 := fun o => hb.cell (p := ⟨w.heap.size + 1, o, none⟩) (by show w.heap.size + 1 < _; first | omega | (simp <;> omega))
    have kc2 := fun o => hb.cell (p := ⟨w.heap.size + 1 + 1, o, none⟩) (by show w.heap.size + 1 + 1 < _; first | omega | (simp <;> omega))
    have kf0 := fun o => hb.frozen (p := ⟨w.heap.size + 1 + 1, o, none⟩) (by show w.heap.size + 1 + 1 < _; first | omega | (simp <;> omega))
    have hz := hb.size
    (try simp at hz)
    have kl0 : w.heap.size < w1.heap.size := by omega
    have kn0 : ¬ w.heap.size = w1.heap.size := by omega
    have km0 : ¬ w1.heap.size = w.heap.size := by omega
    have kl1 : w.heap.size + 1 < w1.heap.size := by omega
    have kn1 : ¬ w.heap.size + 1 = w1.heap.size := by omega
    have km1 : ¬ w1.heap.size = w.heap.size + 1 := by omega
    have kl2 : w.heap.size + 1 + 1 < w1.heap.size := by omega
    have kn2 : ¬ w.heap.size + 1 + 1 = w1.heap.size := by omega
    have km2 : ¬ w1.heap.size = w.heap.size + 1 + 1 := by omega
    have HB := Lib.hid (show Below w.heap.size w w1 from by (repeat' first | exact Below.refl _ _ | apply bl_alloc | apply bl_drewN | apply bl_drew | refine bl_trans ?_ (by assumption) | refine bl_set ?_ (by first | omega | (simp <;> omega)) _))
    have HR := Lib.hid ((show Room _ (w.heap.size + 1 + 1) 2 from (Room.new' (by simp) rfl)).below hb (by first | omega | (simp <;> omega)))
    clear ho hb
    go_wp2_with fail
    refine (sptimes_fr a.y c _).mono ?_
    rintro e w2 ho
    obtain ⟨rfl, hb⟩ := ho.fn
    have kc0 := fun o => hb.cell (p := ⟨w.heap.size, o, none⟩) (by show w.heap.size < _; first | omega | (simp <;> omega))
    have kc1 := fun o => hb.cell (p := ⟨w.heap.size + 1, o, none⟩) (by show w.heap.size + 1 < _; first | omega | (simp <;> omega))
    have kc2 := fun o => hb.cell (p := ⟨w.heap.size + 1 + 1, o, none⟩) (by show w.heap.size + 1 + 1 < _; first | omega | (simp <;> omega))
    have kc3 := fun o => hb.cell (p := ⟨w1.heap.size, o, none⟩) (by show w1.heap.size < _; first | omega | (simp <;> omega))
    have kf0 := fun o => hb.frozen (p := ⟨w.heap.size + 1 + 1, o, none⟩) (by show w.heap.size + 1 + 1 < _; first | omega | (simp <;> omega))
    have hz := hb.size
    (try simp at hz)
    have kl0 : w.heap.size < w2.heap.size := by omega
    have kn0 : ¬ w.heap.size = w2.heap.size := by omega
    have km0 : ¬ w2.heap.size = w.heap.size := by omega
    have kl1 : w.heap.size + 1 < w2.heap.size := by omega
    have kn1 : ¬ w.heap.size + 1 = w2.heap.size := by omega
    have km1 : ¬ w2.heap.size = w.heap.size + 1 := by omega
    have kl2 : w.heap.size + 1 + 1 < w2.heap.size := by omega
    have kn2 : ¬ w.heap.size + 1 + 1 = w2.heap.size := by omega
    have km2 : ¬ w2.heap.size = w.heap.size + 1 + 1 := by omega
    have kl3 : w1.heap.size < w2.heap.size := by omega
    have kn3 : ¬ w1.heap.size = w2.heap.size := by omega
    have km3 : ¬ w2.heap.size = w1.heap.size := by omega
    have HB := Lib.hid (show Below w.heap.size w w2 from by exact HB.out.trans ((show Below _ _ _ from ((Below.refl _ _).alloc (by omega) _)).trans (hb.mono (by first | omega | (simp <;> omega)))))
    have HR := Lib.hid ((show Room _ (w.heap.size + 1 + 1) 2 from (HR.out.alloc (by omega) _)).below hb (by first | omega | (simp <;> omega)))
    clear ho hb
    go_wp2
    refine bodyPost_ret (v := .tuple #[.agg #[.int .i64 0, .int .i64 0, .int .i64 0, .int .i64 0, .int .i64 0, .int .i64 0], .bool false]) ?_ rfl (J2Out.no HG.out ?_)
    · exact Eq.trans (results_cell_mid2 Tryd.results30 _ _ (w.heap.size + 1 + 1) [.int .i64 0, .int .i64 0, .int .i64 0, .int .i64 0, .int .i64 0, .int .i64 0] _ (by rfl) (by ((repeat' first | (with_reducible refine World.rangeAt_setCells_same _ (w.heap.size + 1 + 1) 0 [.int .i64 0, .int .i64 0, .int .i64 0, .int .i64 0, .int .i64 0, .int .i64 0] ?_) | (with_reducible refine World.rangeAt_alloc ?_ _) | (with_reducible refine (World.rangeAt_drew _ _ _ _).2 ?_)); first | exact HR.out.there | (have hh := fun W h => World.rangeAt_setCells_same W (w.heap.size + 1 + 1) 0 [.int .i64 0, .int .i64 0, .int .i64 0, .int .i64 0, .int .i64 0, .int .i64 0] h; simp only [World.setCells, Nat.zero_add, Nat.reduceAdd] at hh; exact hh _ HR.out.there))) Tryd.underlying47 rfl (by kernel_rfl)) rfl
    · (repeat' first | (with_reducible exact HB.out) | with_reducible refine setCells_below _ _ _ ?_ (by first | omega | (simp <;> omega)) | with_reducible refine Below.setCell ?_ (by show _ ≤ _; first | omega | (simp <;> omega) | simp) _ | with_reducible refine Below.alloc ?_ (by first | omega | (simp <;> omega)) _ | with_reducible apply Below.drew)
  cases h2 : (fTimes a.y c).2
  · have HG : Hid ((jTim a c) = (j2z, false)) := by show _ = _; simp [jTim, h1, h2, j2of]
    go_enter Tryd.func30, Tryd.ntmps30
    go_wp2_with fail
    refine (sptimes_fr a.x c _).mono ?_
    rintro e w1 ho
    obtain ⟨rfl, hb⟩ := ho.fn
    have kc0 := fun o => hb.cell (p := ⟨w.heap.size, o, none⟩) (by show w.heap.size < _; first | omega | (simp <;> omega))
    have kc1 := fun o => hb.cell (p := ⟨w.heap.size + 1, o, none⟩) (by show w.heap.size + 1 < _; first | omega | (simp <;> omega))
    have kc2 := fun o => hb.cell (p := ⟨w.heap.size + 1 + 1, o, none⟩) (by show w.heap.size + 1 + 1 < _; first | omega | (simp <;> omega))
    have kf0 := fun o => hb.frozen (p := ⟨w.heap.size + 1 + 1, o, none⟩) (by show w.heap.size + 1 + 1 < _; first | omega | (simp <;> omega))
    have hz := hb.size
    (try simp at hz)
    have kl0 : w.heap.size < w1.heap.size := by omega
    have kn0 : ¬ w.heap.size = w1.heap.size := by omega
    have km0 : ¬ w1.heap.size = w.heap.size := by omega
    have kl1 : w.heap.size + 1 < w1.heap.size := by omega
    have kn1 : ¬ w.heap.size + 1 = w1.heap.size := by omega
    have km1 : ¬ w1.heap.size = w.heap.size + 1 := by omega
    have kl2 : w.heap.size + 1 + 1 < w1.heap.size := by omega
    have kn2 : ¬ w.heap.size + 1 + 1 = w1.heap.size := by omega
    have km2 : ¬ w1.heap.size = w.heap.size + 1 + 1 := by omega
    have HB := Lib.hid (show Below w.heap.size w w1 from by (repeat' first | exact Below.refl _ _ | apply bl_alloc | apply bl_drewN | apply bl_drew | refine bl_trans ?_ (by assumption) | refine bl_set ?_ (by first | omega | (simp <;> omega)) _))
    have HR := Lib.hid ((show Room _ (w.heap.size + 1 + 1) 2 from (Room.new' (by simp) rfl)).below hb (by first | omega | (simp <;> omega)))
    clear ho hb
    go_wp2_with fail
    refine (sptimes_fr a.y c _).mono ?_
    rintro e w2 ho
    obtain ⟨rfl, hb⟩ := ho.fn
    have kc0 := fun o => hb.cell (p := ⟨w.heap.size, o, none⟩) (by show w.heap.size < _; first | omega | (simp <;> omega))
    have kc1 := fun o => hb.cell (p := ⟨w.heap.size + 1, o, none⟩) (by show w.heap.size + 1 < _; first | omega | (simp <;> omega))
    have kc2 := fun o => hb.cell (p := ⟨w.heap.size + 1 + 1, o, none⟩) (by show w.heap.size + 1 + 1 < _; first | omega | (simp <;> omega))
    have kc3 := fun o => hb.cell (p := ⟨w1.heap.size, o, none⟩) (by show w1.heap.size < _; first | omega | (simp <;> omega))
    have kf0 := fun o => hb.frozen (p := ⟨w.heap.size + 1 + 1, o, none⟩) (by show w.heap.size + 1 + 1 < _; first | omega | (simp <;> omega))
    have hz := hb.size
    (try simp at hz)
    have kl0 : w.heap.size < w2.heap.size := by omega
    have kn0 : ¬ w.heap.size = w2.heap.size := by omega
    have km0 : ¬ w2.heap.size = w.heap.size := by omega
    have kl1 : w.heap.size + 1 < w2.heap.size := by omega
    have kn1 : ¬ w.heap.size + 1 = w2.heap.size := by omega
    have km1 : ¬ w2.heap.size = w.heap.size + 1 := by omega
    have kl2 : w.heap.size + 1 + 1 < w2.heap.size := by omega
    have kn2 : ¬ w.heap.size + 1 + 1 = w2.heap.size := by omega
    have km2 : ¬ w2.heap.size = w.heap.size + 1 + 1 := by omega
    have kl3 : w1.heap.size < w2.heap.size := by omega
    have kn3 : ¬ w1.heap.size = w2.heap.size := by omega
    have km3 : ¬ w2.heap.size = w1.heap.size := by omega
    have HB := Lib.hid (show Below w.heap.size w w2 from by exact HB.out.trans ((show Below _ _ _ from ((Below.refl _ _).alloc (by omega) _)).trans (hb.mono (by first | omega | (simp <;> omega)))))
    have HR := Lib.hid ((show Room _ (w.heap.size + 1 + 1) 2 from (HR.out.alloc (by omega) _)).below hb (by first | omega | (simp <;> omega)))
    clear ho hb
    go_wp2
    refine bodyPost_ret (v := .tuple #[.agg #[.int .i64 0, .int .i64 0, .int .i64 0, .int .i64 0, .int .i64 0, .int .i64 0], .bool false]) ?_ rfl (J2Out.no HG.out ?_)
    · exact Eq.trans (results_cell_mid2 Tryd.results30 _ _ (w.heap.size + 1 + 1) [.int .i64 0, .int .i64 0, .int .i64 0, .int .i64 0, .int .i64 0, .int .i64 0] _ (by rfl) (by ((repeat' first | (with_reducible refine World.rangeAt_setCells_same _ (w.heap.size + 1 + 1) 0 [.int .i64 0, .int .i64 0, .int .i64 0, .int .i64 0, .int .i64 0, .int .i64 0] ?_) | (with_reducible refine World.rangeAt_alloc ?_ _) | (with_reducible refine (World.rangeAt_drew _ _ _ _).2 ?_)); first | exact HR.out.there | (have hh := fun W h => World.rangeAt_setCells_same W (w.heap.size + 1 + 1) 0 [.int .i64 0, .int .i64 0, .int .i64 0, .int .i64 0, .int .i64 0, .int .i64 0] h; simp only [World.setCells, Nat.zero_add, Nat.reduceAdd] at hh; exact hh _ HR.out.there))) Tryd.underlying47 rfl (by kernel_rfl)) rfl
    · (repeat' first | (with_reducible exact HB.out) | with_reducible refine setCells_below _ _ _ ?_ (by first | omega | (simp <;> omega)) | with_reducible refine Below.setCell ?_ (by show _ ≤ _; first | omega | (simp <;> omega) | simp) _ | with_reducible refine Below.alloc ?_ (by first | omega | (simp <;> omega)) _ | with_reducible apply Below.drew)
  · have HG : Hid ((jTim a c) = (⟨(fTimes a.x c).1, (fTimes a.y c).1⟩, true)) := by show _ = _; simp [jTim, h1, h2, j2of]
    go_enter Tryd.func30, Tryd.ntmps30
    go_wp2_with fail
    refine (sptimes_fr a.x c _).mono ?_
    rintro e w1 ho
    obtain ⟨rfl, hb⟩ := ho.fn
    have kc0 := fun o => hb.cell (p := ⟨w.heap.size, o, none⟩) (by show w.heap.size < _; first | omega | (simp <;> omega))
    have kc1 := fun o => hb.cell (p := ⟨w.heap.size + 1, o, none⟩) (by show w.heap.size + 1 < _; first | omega | (simp <;> omega))
    have kc2 := fun o => hb.cell (p := ⟨w.heap.size + 1 + 1, o, none⟩) (by show w.heap.size + 1 + 1 < _; first | omega | (simp <;> omega))
    have kf0 := fun o => hb.frozen (p := ⟨w.heap.size + 1 + 1, o, none⟩) (by show w.heap.size + 1 + 1 < _; first | omega | (simp <;> omega))
    have hz := hb.size
    (try simp at hz)
    have kl0 : w.heap.size < w1.heap.size := by omega
    have kn0 : ¬ w.heap.size = w1.heap.size := by omega
    have km0 : ¬ w1.heap.size = w.heap.size := by omega
    have kl1 : w.heap.size + 1 < w1.heap.size := by omega
    have kn1 : ¬ w.heap.size + 1 = w1.heap.size := by omega
    have km1 : ¬ w1.heap.size = w.heap.size + 1 := by omega
    have kl2 : w.heap.size + 1 + 1 < w1.heap.size := by omega
    have kn2 : ¬ w.heap.size + 1 + 1 = w1.heap.size := by omega
    have km2 : ¬ w1.heap.size = w.heap.size + 1 + 1 := by omega
    have HB := Lib.hid (show Below w.heap.size w w1 from by (repeat' first | exact Below.refl _ _ | apply bl_alloc | apply bl_drewN | apply bl_drew | refine bl_trans ?_ (by assumption) | refine bl_set ?_ (by first | omega | (simp <;> omega)) _))
    have HR := Lib.hid ((show Room _ (w.heap.size + 1 + 1) 2 from (Room.new' (by simp) rfl)).below hb (by first | omega | (simp <;> omega)))
    clear ho hb
    go_wp2_with fail
    refine (sptimes_fr a.y c _).mono ?_
    rintro e w2 ho
    obtain ⟨rfl, hb⟩ := ho.fn
    have kc0 := fun o => hb.cell (p := ⟨w.heap.size, o, none⟩) (by show w.heap.size < _; first | omega | (simp <;> omega))
    have kc1 := fun o => hb.cell (p := ⟨w.heap.size + 1, o, none⟩) (by show w.heap.size + 1 < _; first | omega | (simp <;> omega))
    have kc2 := fun o => hb.cell (p := ⟨w.heap.size + 1 + 1, o, none⟩) (by show w.heap.size + 1 + 1 < _; first | omega | (simp <;> omega))
    have kc3 := fun o => hb.cell (p := ⟨w1.heap.size, o, none⟩) (by show w1.heap.size < _; first | omega | (simp <;> omega))
    have kf0 := fun o => hb.frozen (p := ⟨w.heap.size + 1 + 1, o, none⟩) (by show w.heap.size + 1 + 1 < _; first | omega | (simp <;> omega))
    have hz := hb.size
    (try simp at hz)
    have kl0 : w.heap.size < w2.heap.size := by omega
    have kn0 : ¬ w.heap.size = w2.heap.size := by omega
    have km0 : ¬ w2.heap.size = w.heap.size := by omega
    have kl1 : w.heap.size + 1 < w2.heap.size := by omega
    have kn1 : ¬ w.heap.size + 1 = w2.heap.size := by omega
    have km1 : ¬ w2.heap.size = w.heap.size + 1 := by omega
    have kl2 : w.heap.size + 1 + 1 < w2.heap.size := by omega
    have kn2 : ¬ w.heap.size + 1 + 1 = w2.heap.size := by omega
    have km2 : ¬ w2.heap.size = w.heap.size + 1 + 1 := by omega
    have kl3 : w1.heap.size < w2.heap.size := by omega
    have kn3 : ¬ w1.heap.size = w2.heap.size := by omega
    have km3 : ¬ w2.heap.size = w1.heap.size := by omega
    have HB := Lib.hid (show Below w.heap.size w w2 from by exact HB.out.trans ((show Below _ _ _ from ((Below.refl _ _).alloc (by omega) _)).trans (hb.mono (by first | omega | (simp <;> omega)))))
    have HR := Lib.hid ((show Room _ (w.heap.size + 1 + 1) 2 from (HR.out.alloc (by omega) _)).below hb (by first | omega | (simp <;> omega)))
    clear ho hb
    go_wp2
    refine bodyPost_ret (v := .tuple #[.agg #[.int .i64 (fTimes a.x c).1.re, .int .i64 (fTimes a.x c).1.im, .int .i64 (fTimes a.x c).1.den, .int .i64 (fTimes a.y c).1.re, .int .i64 (fTimes a.y c).1.im, .int .i64 (fTimes a.y c).1.den], .bool true]) ?_ rfl (J2Out.yes (f := ⟨(fTimes a.x c).1, (fTimes a.y c).1⟩) (by rw [HG.out]) (by rw [HG.out]) ?_)
    · exact Eq.trans (results_cell_mid2 Tryd.results30 _ _ (w.heap.size + 1 + 1) [.int .i64 (fTimes a.x c).1.re, .int .i64 (fTimes a.x c).1.im, .int .i64 (fTimes a.x c).1.den, .int .i64 (fTimes a.y c).1.re, .int .i64 (fTimes a.y c).1.im, .int .i64 (fTimes a.y c).1.den] _ (by rfl) (by ((repeat' first | (with_reducible refine World.rangeAt_setCells_same _ (w.heap.size + 1 + 1) 0 [.int .i64 (fTimes a.x c).1.re, .int .i64 (fTimes a.x c).1.im, .int .i64 (fTimes a.x c).1.den, .int .i64 (fTimes a.y c).1.re, .int .i64 (fTimes a.y c).1.im, .int .i64 (fTimes a.y c).1.den] ?_) | (with_reducible refine World.rangeAt_alloc ?_ _) | (with_reducible refine (World.rangeAt_drew _ _ _ _).2 ?_)); first | exact HR.out.there | (have hh := fun W h => World.rangeAt_setCells_same W (w.heap.size + 1 + 1) 0 [.int .i64 (fTimes a.x c).1.re, .int .i64 (fTimes a.x c).1.im, .int .i64 (fTimes a.x c).1.den, .int .i64 (fTimes a.y c).1.re, .int .i64 (fTimes a.y c).1.im, .int .i64 (fTimes a.y c).1.den] h; simp only [World.setCells, Nat.zero_add, Nat.reduceAdd] at hh; exact hh _ HR.out.there))) Tryd.underlying47 rfl (by kernel_rfl)) rfl
    · (repeat' first | (with_reducible exact HB.out) | with_reducible refine setCells_below _ _ _ ?_ (by first | omega | (simp <;> omega)) | with_reducible refine Below.setCell ?_ (by show _ ≤ _; first | omega | (simp <;> omega) | simp) _ | with_reducible refine Below.alloc ?_ (by first | omega | (simp <;> omega)) _ | with_reducible apply Below.drew)
end Go.Proofs.YtmcokdiopcpifaaDoor
