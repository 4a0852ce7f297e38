/- Contracts: a matrix upon a matrix, both sides. -/
import Derived.Test.YtmcokdiopcpifaaDoorPlNB
import Derived.Test.YtmcokdiopcpifaaDoorPlN
import Derived.Test.YtmcokdiopcpifaaDoorPlV
import Derived.Test.YtmcokdiopcpifaaDoorPlJ
set_option maxRecDepth 100000
namespace Go.Proofs.YtmcokdiopcpifaaDoor
open Go.RowKit Pol
def mTm (m n : M4) : M4 × Bool := if all4 vld m = true then if all4 vld n = true then g4 (fIn m.a n.a m.b n.c).1 (fIn m.a n.b m.b n.d).1 (fIn m.c n.a m.d n.c).1 (fIn m.c n.b m.d n.d).1 ((fIn m.a n.a m.b n.c).2 && (fIn m.a n.b m.b n.d).2 && (fIn m.c n.a m.d n.c).2 && (fIn m.c n.b m.d n.d).2) else (m4z, false) else (m4z, false)
theorem mTmI_eq (m n : M4) : mTmI m n = mTm m n := by
  have e : mTmI m n = gt m4z ((eIn (eIn (eIn (eIn (false || !(all4 vld m && all4 vld n)) m.a n.a m.b n.c) m.a n.b m.b n.d) m.c n.a m.d n.c) m.c n.b m.d n.d)) ⟨(fAdd (fTimes m.a n.a).1 (fTimes m.b n.c).1).1, (fAdd (fTimes m.a n.b).1 (fTimes m.b n.d).1).1, (fAdd (fTimes m.c n.a).1 (fTimes m.d n.c).1).1, (fAdd (fTimes m.c n.b).1 (fTimes m.d n.d).1).1⟩ := rfl
  rw [e, eIn_eq, eIn_eq, eIn_eq, eIn_eq]
  unfold gt mTm g4
  cases h1 : all4 vld m
  · simp
  cases h2 : all4 vld n
  · simp
  cases h3 : (fIn m.a n.a m.b n.c).2
  · simp
  cases h4 : (fIn m.a n.b m.b n.d).2
  · simp
  cases h5 : (fIn m.c n.a m.d n.c).2
  · simp
  cases h6 : (fIn m.c n.b m.d n.d).2
  · simp
  simp [fIn_val h3, fIn_val h4, fIn_val h5, fIn_val h6]
theorem imtm_m (m n : M4) (w : World) : Calls Tryd.prog 53 #[.agg #[.int .i64 m.a.re, .int .i64 m.a.im, .int .i64 m.a.den, .int .i64 m.b.re, .int .i64 m.b.im, .int .i64 m.b.den, .int .i64 m.c.re, .int .i64 m.c.im, .int .i64 m.c.den, .int .i64 m.d.re, .int .i64 m.d.im, .int .i64 m.d.den], .agg #[.int .i64 n.a.re, .int .i64 n.a.im, .int .i64 n.a.den, .int .i64 n.b.re, .int .i64 n.b.im, .int .i64 n.b.den, .int .i64 n.c.re, .int .i64 n.c.im, .int .i64 n.c.den, .int .i64 n.d.re, .int .i64 n.d.im, .int .i64 n.d.den]] w (M4Out (mTm m n) w) := mTmI_eq m n ▸ imtm m n w
set_option maxRecDepth 100000 in
set_option maxHeartbeats 8000000 in
theorem smtm_any (m : M4) (n : M4) (w : World) :
    Calls Tryd.prog 107 #[.agg #[.int .i64 m.a.re, .int .i64 m.a.im, .int .i64 m.a.den, .int .i64 m.b.re, .int .i64 m.b.im, .int .i64 m.b.den, .int .i64 m.c.re, .int .i64 m.c.im, .int .i64 m.c.den, .int .i64 m.d.re, .int .i64 m.d.im, .int .i64 m.d.den], .agg #[.int .i64 n.a.re, .int .i64 n.a.im, .int .i64 n.a.den, .int .i64 n.b.re, .int .i64 n.b.im, .int .i64 n.b.den, .int .i64 n.c.re, .int .i64 n.c.im, .int .i64 n.c.den, .int .i64 n.d.re, .int .i64 n.d.im, .int .i64 n.d.den]] w (M4Out (mTm m n) w) := by
  cases h1 : all4 vld m
  · have HG : Hid ((mTm m n) = (m4z, false)) := by show _ = _; simp [mTm, h1]
    go_enter Tryd.func107, Tryd.ntmps107
    go_wp2_with fail
    refine (smatvalid_any m _).mono ?_
    rintro e w1 ho
    obtain ⟨rfl, hb⟩ := (id ho)
    have kc0 := fun o => hb.cell (p := ⟨w.heap.size, o, none⟩) (by show w.heap.size < _; first | omega | (simp <;> omega))
    have kc1 := fun o => hb.cell (p := ⟨w.heap.size + 1, o, none⟩) (by show w.heap.size + 1 < _; first | omega | (simp <;> omega))
    have kc2 := fun o => hb.cell (p := ⟨w.heap.size + 1 + 1, o, none⟩) (by show w.heap.size + 1 + 1 < _; first | omega | (simp <;> omega))
    have kf0 := fun o => hb.frozen (p := ⟨w.heap.size + 1 + 1, o, none⟩) (by show w.heap.size + 1 + 1 < _; first | omega | (simp <;> omega))
    have hz := hb.size
    (try simp at hz)
    have kl0 : w.heap.size < w1.heap.size := by omega
    have kn0 : ¬ w.heap.size = w1.heap.size := by omega
    have km0 : ¬ w1.heap.size = w.heap.size := by omega
    have kl1 : w.heap.size + 1 < w1.heap.size := by omega
    have kn1 : ¬ w.heap.size + 1 = w1.heap.size := by omega
    have km1 : ¬ w1.heap.size = w.heap.size + 1 := by omega
    have kl2 : w.heap.size + 1 + 1 < w1.heap.size := by omega
    have kn2 : ¬ w.heap.size + 1 + 1 = w1.heap.size := by omega
    have km2 : ¬ w1.heap.size = w.heap.size + 1 + 1 := by omega
    have HB := Lib.hid (show Below w.heap.size w w1 from by (repeat' first | exact Below.refl _ _ | apply bl_alloc | apply bl_drewN | apply bl_drew | refine bl_trans ?_ (by assumption) | refine bl_set ?_ (by first | omega | (simp <;> omega)) _))
    have HR := Lib.hid ((show Room _ (w.heap.size + 1 + 1) 4 from (Room.new' (by simp) rfl)).below hb (by first | omega | (simp <;> omega)))
    clear ho hb
    go_wp2
    refine bodyPost_ret (v := .tuple #[.agg #[.int .i64 0, .int .i64 0, .int .i64 0, .int .i64 0, .int .i64 0, .int .i64 0, .int .i64 0, .int .i64 0, .int .i64 0, .int .i64 0, .int .i64 0, .int .i64 0], .bool false]) ?_ rfl (M4Out.no HG.out ?_)
    · exact Eq.trans (results_cell_mid2 Tryd.results107 _ _ (w.heap.size + 1 + 1) [.int .i64 0, .int .i64 0, .int .i64 0, .int .i64 0, .int .i64 0, .int .i64 0, .int .i64 0, .int .i64 0, .int .i64 0, .int .i64 0, .int .i64 0, .int .i64 0] _ (by rfl) (by ((repeat' first | (with_reducible refine World.rangeAt_setCells_same _ (w.heap.size + 1 + 1) 0 [.int .i64 0, .int .i64 0, .int .i64 0, .int .i64 0, .int .i64 0, .int .i64 0, .int .i64 0, .int .i64 0, .int .i64 0, .int .i64 0, .int .i64 0, .int .i64 0] ?_) | (with_reducible refine World.rangeAt_alloc ?_ _) | (with_reducible refine (World.rangeAt_drew _ _ _ _).2 ?_)); first | exact HR.out.there | (have hh := fun W h => World.rangeAt_setCells_same W (w.heap.size + 1 + 1) 0 [.int .i64 0, .int .i64 0, .int .i64 0, .int .i64 0, .int .i64 0, .int .i64 0, .int .i64 0, .int .i64 0, .int .i64 0, .int .i64 0, .int .i64 0, .int .i64 0] h; simp only [World.setCells, Nat.zero_add, Nat.reduceAdd] at hh; exact hh _ HR.out.there))) Tryd.underlying41 rfl (by kernel_rfl)) rfl
    · (repeat' first | (with_reducible exact HB.out) | with_reducible refine setCells_below _ _ _ ?_ (by first | omega | (simp <;> omega)) | with_reducible refine Below.setCell ?_ (by show _ ≤ _; first | omega | (simp <;> omega) | simp) _ | with_reducible refine Below.alloc ?_ (by first | omega | (simp <;> omega)) _ | with_reducible apply Below.drew)
  cases h2 : all4 vld n
  · have HG : Hid ((mTm m n) = (m4z, false)) := by show _ = _; simp [mTm, h1, h2]
    go_enter Tryd.func107, Tryd.ntmps107
    go_wp2_with fail
    refine (smatvalid_any m _).mono ?_
    rintro e w1 ho
    obtain ⟨rfl, hb⟩ := (id ho)
    have kc0 := fun o => hb.cell (p := ⟨w.heap.size, o, none⟩) (by show w.heap.size < _; first | omega | (simp <;> omega))
    have kc1 := fun o => hb.cell (p := ⟨w.heap.size + 1, o, none⟩) (by show w.heap.size + 1 < _; first | omega | (simp <;> omega))
    have kc2 := fun o => hb.cell (p := ⟨w.heap.size + 1 + 1, o, none⟩) (by show w.heap.size + 1 + 1 < _; first | omega | (simp <;> omega))
    have kf0 := fun o => hb.frozen (p := ⟨w.heap.size + 1 + 1, o, none⟩) (by show w.heap.size + 1 + 1 < _; first | omega | (simp <;> omega))
    have hz := hb.size
    (try simp at hz)
    have kl0 : w.heap.size < w1.heap.size := by omega
    have kn0 : ¬ w.heap.size = w1.heap.size := by omega
    have km0 : ¬ w1.heap.size = w.heap.size := by omega
    have kl1 : w.heap.size + 1 < w1.heap.size := by omega
    have kn1 : ¬ w.heap.size + 1 = w1.heap.size := by omega
    have km1 : ¬ w1.heap.size = w.heap.size + 1 := by omega
    have kl2 : w.heap.size + 1 + 1 < w1.heap.size := by omega
    have kn2 : ¬ w.heap.size + 1 + 1 = w1.heap.size := by omega
    have km2 : ¬ w1.heap.size = w.heap.size + 1 + 1 := by omega
    have HB := Lib.hid (show Below w.heap.size w w1 from by (repeat' first | exact Below.refl _ _ | apply bl_alloc | apply bl_drewN | apply bl_drew | refine bl_trans ?_ (by assumption) | refine bl_set ?_ (by first | omega | (simp <;> omega)) _))
    have HR := Lib.hid ((show Room _ (w.heap.size + 1 + 1) 4 from (Room.new' (by simp) rfl)).below hb (by first | omega | (simp <;> omega)))
    clear ho hb
    go_wp2_with fail
    refine (smatvalid_any n _).mono ?_
    rintro e w2 ho
    obtain ⟨rfl, hb⟩ := (id ho)
    have kc0 := fun o => hb.cell (p := ⟨w.heap.size, o, none⟩) (by show w.heap.size < _; first | omega | (simp <;> omega))
    have kc1 := fun o => hb.cell (p := ⟨w.heap.size + 1, o, none⟩) (by show w.heap.size + 1 < _; first | omega | (simp <;> omega))
    have kc2 := fun o => hb.cell (p := ⟨w.heap.size + 1 + 1, o, none⟩) (by show w.heap.size + 1 + 1 < _; first | omega | (simp <;> omega))
    have kf0 := fun o => hb.frozen (p := ⟨w.heap.size + 1 + 1, o, none⟩) (by show w.heap.size + 1 + 1 < _; first | omega | (simp <;> omega))
    have hz := hb.size
    (try simp at hz)
    have kl0 : w.heap.size < w2.heap.size := by omega
    have kn0 : ¬ w.heap.size = w2.heap.size := by omega
    have km0 : ¬ w2.heap.size = w.heap.size := by omega
    have kl1 : w.heap.size + 1 < w2.heap.size := by omega
    have kn1 : ¬ w.heap.size + 1 = w2.heap.size := by omega
    have km1 : ¬ w2.heap.size = w.heap.size + 1 := by omega
    have kl2 : w.heap.size + 1 + 1 < w2.heap.size := by omega
    have kn2 : ¬ w.heap.size + 1 + 1 = w2.heap.size := by omega
    have km2 : ¬ w2.heap.size = w.heap.size + 1 + 1 := by omega
    have HB := Lib.hid (show Below w.heap.size w w2 from by exact HB.out.trans ((show Below _ _ _ from (Below.refl _ _)).trans (hb.mono (by first | omega | (simp <;> omega)))))
    have HR := Lib.hid ((show Room _ (w.heap.size + 1 + 1) 4 from HR.out).below hb (by first | omega | (simp <;> omega)))
    clear ho hb
    go_wp2
    refine bodyPost_ret (v := .tuple #[.agg #[.int .i64 0, .int .i64 0, .int .i64 0, .int .i64 0, .int .i64 0, .int .i64 0, .int .i64 0, .int .i64 0, .int .i64 0, .int .i64 0, .int .i64 0, .int .i64 0], .bool false]) ?_ rfl (M4Out.no HG.out ?_)
    · exact Eq.trans (results_cell_mid2 Tryd.results107 _ _ (w.heap.size + 1 + 1) [.int .i64 0, .int .i64 0, .int .i64 0, .int .i64 0, .int .i64 0, .int .i64 0, .int .i64 0, .int .i64 0, .int .i64 0, .int .i64 0, .int .i64 0, .int .i64 0] _ (by rfl) (by ((repeat' first | (with_reducible refine World.rangeAt_setCells_same _ (w.heap.size + 1 + 1) 0 [.int .i64 0, .int .i64 0, .int .i64 0, .int .i64 0, .int .i64 0, .int .i64 0, .int .i64 0, .int .i64 0, .int .i64 0, .int .i64 0, .int .i64 0, .int .i64 0] ?_) | (with_reducible refine World.rangeAt_alloc ?_ _) | (with_reducible refine (World.rangeAt_drew _ _ _ _).2 ?_)); first | exact HR.out.there | (have hh := fun W h => World.rangeAt_setCells_same W (w.heap.size + 1 + 1) 0 [.int .i64 0, .int .i64 0, .int .i64 0, .int .i64 0, .int .i64 0, .int .i64 0, .int .i64 0, .int .i64 0, .int .i64 0, .int .i64 0, .int .i64 0, .int .i64 0] h; simp only [World.setCells, Nat.zero_add, Nat.reduceAdd] at hh; exact hh _ HR.out.there))) Tryd.underlying41 rfl (by kernel_rfl)) rfl
    · (repeat' first | (with_reducible exact HB.out) | with_reducible refine setCells_below _ _ _ ?_ (by first | omega | (simp <;> omega)) | with_reducible refine Below.setCell ?_ (by show _ ≤ _; first | omega | (simp <;> omega) | simp) _ | with_reducible refine Below.alloc ?_ (by first | omega | (simp <;> omega)) _ | with_reducible apply Below.drew)
  cases q1 : (fIn m.a n.a m.b n.c).2
  · have HG : Hid ((mTm m n) = g4 (fIn m.a n.a m.b n.c).1 (fIn m.a n.b m.b n.d).1 (fIn m.c n.a m.d n.c).1 (fIn m.c n.b m.d n.d).1 false) := by show _ = _; simp [mTm, h1, h2, q1]
    go_enter Tryd.func107, Tryd.ntmps107
    go_wp2_with fail
    refine (smatvalid_any m _).mono ?_
    rintro e w1 ho
    obtain ⟨rfl, hb⟩ := (id ho)
    have kc0 := fun o => hb.cell (p := ⟨w.heap.size, o, none⟩) (by show w.heap.size < _; first | omega | (simp <;> omega))
    have kc1 := fun o => hb.cell (p := ⟨w.heap.size + 1, o, none⟩) (by show w.heap.size + 1 < _; first | omega | (simp <;> omega))
    have kc2 := fun o => hb.cell (p := ⟨w.heap.size + 1 + 1, o, none⟩) (by show w.heap.size + 1 + 1 < _; first | omega | (simp <;> omega))
    have kf0 := fun o => hb.frozen (p := ⟨w.heap.size + 1 + 1, o, none⟩) (by show w.heap.size + 1 + 1 < _; first | omega | (simp <;> omega))
    have hz := hb.size
    (try simp at hz)
    have kl0 : w.heap.size < w1.heap.size := by omega
    have kn0 : ¬ w.heap.size = w1.heap.size := by omega
    have km0 : ¬ w1.heap.size = w.heap.size := by omega
    have kl1 : w.heap.size + 1 < w1.heap.size := by omega
    have kn1 : ¬ w.heap.size + 1 = w1.heap.size := by omega
    have km1 : ¬ w1.heap.size = w.heap.size + 1 := by omega
    have kl2 : w.heap.size + 1 + 1 < w1.heap.size := by omega
    have kn2 : ¬ w.heap.size + 1 + 1 = w1.heap.size := by omega
    have km2 : ¬ w1.heap.size = w.heap.size + 1 + 1 := by omega
    have HB := Lib.hid (show Below w.heap.size w w1 from by (repeat' first | exact Below.refl _ _ | apply bl_alloc | apply bl_drewN | apply bl_drew | refine bl_trans ?_ (by assumption) | refine bl_set ?_ (by first | omega | (simp <;> omega)) _))
    have HR := Lib.hid ((show Room _ (w.heap.size + 1 + 1) 4 from (Room.new' (by simp) rfl)).below hb (by first | omega | (simp <;> omega)))
    clear ho hb
    go_wp2_with fail
    refine (smatvalid_any n _).mono ?_
    rintro e w2 ho
    obtain ⟨rfl, hb⟩ := (id ho)
    have kc0 := fun o => hb.cell (p := ⟨w.heap.size, o, none⟩) (by show w.heap.size < _; first | omega | (simp <;> omega))
    have kc1 := fun o => hb.cell (p := ⟨w.heap.size + 1, o, none⟩) (by show w.heap.size + 1 < _; first | omega | (simp <;> omega))
    have kc2 := fun o => hb.cell (p := ⟨w.heap.size + 1 + 1, o, none⟩) (by show w.heap.size + 1 + 1 < _; first | omega | (simp <;> omega))
    have kf0 := fun o => hb.frozen (p := ⟨w.heap.size + 1 + 1, o, none⟩) (by show w.heap.size + 1 + 1 < _; first | omega | (simp <;> omega))
    have hz := hb.size
    (try simp at hz)
    have kl0 : w.heap.size < w2.heap.size := by omega
    have kn0 : ¬ w.heap.size = w2.heap.size := by omega
    have km0 : ¬ w2.heap.size = w.heap.size := by omega
    have kl1 : w.heap.size + 1 < w2.heap.size := by omega
    have kn1 : ¬ w.heap.size + 1 = w2.heap.size := by omega
    have km1 : ¬ w2.heap.size = w.heap.size + 1 := by omega
    have kl2 : w.heap.size + 1 + 1 < w2.heap.size := by omega
    have kn2 : ¬ w.heap.size + 1 + 1 = w2.heap.size := by omega
    have km2 : ¬ w2.heap.size = w.heap.size + 1 + 1 := by omega
    have HB := Lib.hid (show Below w.heap.size w w2 from by exact HB.out.trans ((show Below _ _ _ from (Below.refl _ _)).trans (hb.mono (by first | omega | (simp <;> omega)))))
    have HR := Lib.hid ((show Room _ (w.heap.size + 1 + 1) 4 from HR.out).below hb (by first | omega | (simp <;> omega)))
    clear ho hb
    go_wp2_with fail
    refine (l3in_any m.a n.a m.b n.c _).mono ?_
    rintro e w3 ho
    obtain ⟨rfl, hb⟩ := ho.fn
    have kc0 := fun o => hb.cell (p := ⟨w.heap.size, o, none⟩) (by show w.heap.size < _; first | omega | (simp <;> omega))
    have kc1 := fun o => hb.cell (p := ⟨w.heap.size + 1, o, none⟩) (by show w.heap.size + 1 < _; first | omega | (simp <;> omega))
    have kc2 := fun o => hb.cell (p := ⟨w.heap.size + 1 + 1, o, none⟩) (by show w.heap.size + 1 + 1 < _; first | omega | (simp <;> omega))
    have kf0 := fun o => hb.frozen (p := ⟨w.heap.size + 1 + 1, o, none⟩) (by show w.heap.size + 1 + 1 < _; first | omega | (simp <;> omega))
    have hz := hb.size
    (try simp at hz)
    have kl0 : w.heap.size < w3.heap.size := by omega
    have kn0 : ¬ w.heap.size = w3.heap.size := by omega
    have km0 : ¬ w3.heap.size = w.heap.size := by omega
    have kl1 : w.heap.size + 1 < w3.heap.size := by omega
    have kn1 : ¬ w.heap.size + 1 = w3.heap.size := by omega
    have km1 : ¬ w3.heap.size = w.heap.size + 1 := by omega
    have kl2 : w.heap.size + 1 + 1 < w3.heap.size := by omega
    have kn2 : ¬ w.heap.size + 1 + 1 = w3.heap.size := by omega
    have km2 : ¬ w3.heap.size = w.heap.size + 1 + 1 := by omega
    have HB := Lib.hid (show Below w.heap.size w w3 from by exact HB.out.trans ((show Below _ _ _ from (Below.refl _ _)).trans (hb.mono (by first | omega | (simp <;> omega)))))
    have HR := Lib.hid ((show Room _ (w.heap.size + 1 + 1) 4 from HR.out).below hb (by first | omega | (simp <;> omega)))
    clear ho hb
    go_wp2_with fail
    refine (l3in_any m.a n.b m.b n.d _).mono ?_
    rintro e w4 ho
    obtain ⟨rfl, hb⟩ := ho.fn
    have kc0 := fun o => hb.cell (p := ⟨w.heap.size, o, none⟩) (by show w.heap.size < _; first | omega | (simp <;> omega))
    have kc1 := fun o => hb.cell (p := ⟨w.heap.size + 1, o, none⟩) (by show w.heap.size + 1 < _; first | omega | (simp <;> omega))
    have kc2 := fun o => hb.cell (p := ⟨w.heap.size + 1 + 1, o, none⟩) (by show w.heap.size + 1 + 1 < _; first | omega | (simp <;> omega))
    have kc3 := fun o => hb.cell (p := ⟨w3.heap.size, o, none⟩) (by show w3.heap.size < _; first | omega | (simp <;> omega))
    have kf0 := fun o => hb.frozen (p := ⟨w.heap.size + 1 + 1, o, none⟩) (by show w.heap.size + 1 + 1 < _; first | omega | (simp <;> omega))
    have hz := hb.size
    (try simp at hz)
    have kl0 : w.heap.size < w4.heap.size := by omega
    have kn0 : ¬ w.heap.size = w4.heap.size := by omega
    have km0 : ¬ w4.heap.size = w.heap.size := by omega
    have kl1 : w.heap.size + 1 < w4.heap.size := by omega
    have kn1 : ¬ w.heap.size + 1 = w4.heap.size := by omega
    have km1 : ¬ w4.heap.size = w.heap.size + 1 := by omega
    have kl2 : w.heap.size + 1 + 1 < w4.heap.size := by omega
    have kn2 : ¬ w.heap.size + 1 + 1 = w4.heap.size := by omega
    have km2 : ¬ w4.heap.size = w.heap.size + 1 + 1 := by omega
    have kl3 : w3.heap.size < w4.heap.size := by omega
    have kn3 : ¬ w3.heap.size = w4.heap.size := by omega
    have km3 : ¬ w4.heap.size = w3.heap.size := by omega
    have HB := Lib.hid (show Below w.heap.size w w4 from by exact HB.out.trans ((show Below _ _ _ from ((Below.refl _ _).alloc (by omega) _)).trans (hb.mono (by first | omega | (simp <;> omega)))))
    have HR := Lib.hid ((show Room _ (w.heap.size + 1 + 1) 4 from (HR.out.alloc (by omega) _)).below hb (by first | omega | (simp <;> omega)))
    clear ho hb
    go_wp2_with fail
    refine (l3in_any m.c n.a m.d n.c _).mono ?_
    rintro e w5 ho
    obtain ⟨rfl, hb⟩ := ho.fn
    have kc0 := fun o => hb.cell (p := ⟨w.heap.size, o, none⟩) (by show w.heap.size < _; first | omega | (simp <;> omega))
    have kc1 := fun o => hb.cell (p := ⟨w.heap.size + 1, o, none⟩) (by show w.heap.size + 1 < _; first | omega | (simp <;> omega))
    have kc2 := fun o => hb.cell (p := ⟨w.heap.size + 1 + 1, o, none⟩) (by show w.heap.size + 1 + 1 < _; first | omega | (simp <;> omega))
    have kc3 := fun o => hb.cell (p := ⟨w3.heap.size, o, none⟩) (by show w3.heap.size < _; first | omega | (simp <;> omega))
    have kc4 := fun o => hb.cell (p := ⟨w4.heap.size, o, none⟩) (by show w4.heap.size < _; first | omega | (simp <;> omega))
    have kf0 := fun o => hb.frozen (p := ⟨w.heap.size + 1 + 1, o, none⟩) (by show w.heap.size + 1 + 1 < _; first | omega | (simp <;> omega))
    have hz := hb.size
    (try simp at hz)
    have kl0 : w.heap.size < w5.heap.size := by omega
    have kn0 : ¬ w.heap.size = w5.heap.size := by omega
    have km0 : ¬ w5.heap.size = w.heap.size := by omega
    have kl1 : w.heap.size + 1 < w5.heap.size := by omega
    have kn1 : ¬ w.heap.size + 1 = w5.heap.size := by omega
    have km1 : ¬ w5.heap.size = w.heap.size + 1 := by omega
    have kl2 : w.heap.size + 1 + 1 < w5.heap.size := by omega
    have kn2 : ¬ w.heap.size + 1 + 1 = w5.heap.size := by omega
    have km2 : ¬ w5.heap.size = w.heap.size + 1 + 1 := by omega
    have kl3 : w3.heap.size < w5.heap.size := by omega
    have kn3 : ¬ w3.heap.size = w5.heap.size := by omega
    have km3 : ¬ w5.heap.size = w3.heap.size := by omega
    have kl4 : w4.heap.size < w5.heap.size := by omega
    have kn4 : ¬ w4.heap.size = w5.heap.size := by omega
    have km4 : ¬ w5.heap.size = w4.heap.size := by omega
    have HB := Lib.hid (show Below w.heap.size w w5 from by exact HB.out.trans ((show Below _ _ _ from ((Below.refl _ _).alloc (by omega) _)).trans (hb.mono (by first | omega | (simp <;> omega)))))
    have HR := Lib.hid ((show Room _ (w.heap.size + 1 + 1) 4 from (HR.out.alloc (by omega) _)).below hb (by first | omega | (simp <;> omega)))
    clear ho hb
    go_wp2_with fail
    refine (l3in_any m.c n.b m.d n.d _).mono ?_
    rintro e w6 ho
    obtain ⟨rfl, hb⟩ := ho.fn
    have kc0 := fun o => hb.cell (p := ⟨w.heap.size, o, none⟩) (by show w.heap.size < _; first | omega | (simp <;> omega))
    have kc1 := fun o => hb.cell (p := ⟨w.heap.size + 1, o, none⟩) (by show w.heap.size + 1 < _; first | omega | (simp <;> omega))
    have kc2 := fun o => hb.cell (p := ⟨w.heap.size + 1 + 1, o, none⟩) (by show w.heap.size + 1 + 1 < _; first | omega | (simp <;> omega))
    have kc3 := fun o => hb.cell (p := ⟨w3.heap.size, o, none⟩) (by show w3.heap.size < _; first | omega | (simp <;> omega))
    have kc4 := fun o => hb.cell (p := ⟨w4.heap.size, o, none⟩) (by show w4.heap.size < _; first | omega | (simp <;> omega))
    have kc5 := fun o => hb.cell (p := ⟨w5.heap.size, o, none⟩) (by show w5.heap.size < _; first | omega | (simp <;> omega))
    have kf0 := fun o => hb.frozen (p := ⟨w.heap.size + 1 + 1, o, none⟩) (by show w.heap.size + 1 + 1 < _; first | omega | (simp <;> omega))
    have hz := hb.size
    (try simp at hz)
    have kl0 : w.heap.size < w6.heap.size := by omega
    have kn0 : ¬ w.heap.size = w6.heap.size := by omega
    have km0 : ¬ w6.heap.size = w.heap.size := by omega
    have kl1 : w.heap.size + 1 < w6.heap.size := by omega
    have kn1 : ¬ w.heap.size + 1 = w6.heap.size := by omega
    have km1 : ¬ w6.heap.size = w.heap.size + 1 := by omega
    have kl2 : w.heap.size + 1 + 1 < w6.heap.size := by omega
    have kn2 : ¬ w.heap.size + 1 + 1 = w6.heap.size := by omega
    have km2 : ¬ w6.heap.size = w.heap.size + 1 + 1 := by omega
    have kl3 : w3.heap.size < w6.heap.size := by omega
    have kn3 : ¬ w3.heap.size = w6.heap.size := by omega
    have km3 : ¬ w6.heap.size = w3.heap.size := by omega
    have kl4 : w4.heap.size < w6.heap.size := by omega
    have kn4 : ¬ w4.heap.size = w6.heap.size := by omega
    have km4 : ¬ w6.heap.size = w4.heap.size := by omega
    have kl5 : w5.heap.size < w6.heap.size := by omega
    have kn5 : ¬ w5.heap.size = w6.heap.size := by omega
    have km5 : ¬ w6.heap.size = w5.heap.size := by omega
    have HB := Lib.hid (show Below w.heap.size w w6 from by exact HB.out.trans ((show Below _ _ _ from ((Below.refl _ _).alloc (by omega) _)).trans (hb.mono (by first | omega | (simp <;> omega)))))
    have HR := Lib.hid ((show Room _ (w.heap.size + 1 + 1) 4 from (HR.out.alloc (by omega) _)).below hb (by first | omega | (simp <;> omega)))
    clear ho hb
    go_wp2_with fail
    refine (l5Four_any _ _ _ _ _ _).mono ?_
    rintro e w7 ho
    rw [← HG.out] at ho
    obtain ⟨rfl, hb⟩ := ho.fn
    have kc0 := fun o => hb.cell (p := ⟨w.heap.size + 1 + 1, o, none⟩) (by show w.heap.size + 1 + 1 < _; first | omega | (simp <;> omega))
    have kf0 := fun o => hb.frozen (p := ⟨w.heap.size + 1 + 1, o, none⟩) (by show w.heap.size + 1 + 1 < _; first | omega | (simp <;> omega))
    have hz := hb.size
    (try simp at hz)
    have kl0 : w.heap.size + 1 + 1 < w7.heap.size := by omega
    have kn0 : ¬ w.heap.size + 1 + 1 = w7.heap.size := by omega
    have km0 : ¬ w7.heap.size = w.heap.size + 1 + 1 := by omega
    have HB := Lib.hid (show Below w.heap.size w w7 from by exact HB.out.trans ((show Below _ _ _ from ((Below.refl _ _).alloc (by omega) _)).trans (hb.mono (by first | omega | (simp <;> omega)))))
    have HR := Lib.hid ((show Room _ (w.heap.size + 1 + 1) 4 from (HR.out.alloc (by omega) _)).below hb (by first | omega | (simp <;> omega)))
    clear ho hb
    go_wp2
    refine bodyPost_ret (v := .tuple #[.agg #[.int .i64 ((mTm m n)).1.a.re, .int .i64 ((mTm m n)).1.a.im, .int .i64 ((mTm m n)).1.a.den, .int .i64 ((mTm m n)).1.b.re, .int .i64 ((mTm m n)).1.b.im, .int .i64 ((mTm m n)).1.b.den, .int .i64 ((mTm m n)).1.c.re, .int .i64 ((mTm m n)).1.c.im, .int .i64 ((mTm m n)).1.c.den, .int .i64 ((mTm m n)).1.d.re, .int .i64 ((mTm m n)).1.d.im, .int .i64 ((mTm m n)).1.d.den], .bool ((mTm m n)).2]) ?_ rfl (M4Out.self ?_)
    · exact Eq.trans (results_cell_mid2 Tryd.results107 _ _ (w.heap.size + 1 + 1) [.int .i64 ((mTm m n)).1.a.re, .int .i64 ((mTm m n)).1.a.im, .int .i64 ((mTm m n)).1.a.den, .int .i64 ((mTm m n)).1.b.re, .int .i64 ((mTm m n)).1.b.im, .int .i64 ((mTm m n)).1.b.den, .int .i64 ((mTm m n)).1.c.re, .int .i64 ((mTm m n)).1.c.im, .int .i64 ((mTm m n)).1.c.den, .int .i64 ((mTm m n)).1.d.re, .int .i64 ((mTm m n)).1.d.im, .int .i64 ((mTm m n)).1.d.den] _ (by rfl) (by ((repeat' first | (with_reducible refine World.rangeAt_setCells_same _ (w.heap.size + 1 + 1) 0 [.int .i64 ((mTm m n)).1.a.re, .int .i64 ((mTm m n)).1.a.im, .int .i64 ((mTm m n)).1.a.den, .int .i64 ((mTm m n)).1.b.re, .int .i64 ((mTm m n)).1.b.im, .int .i64 ((mTm m n)).1.b.den, .int .i64 ((mTm m n)).1.c.re, .int .i64 ((mTm m n)).1.c.im, .int .i64 ((mTm m n)).1.c.den, .int .i64 ((mTm m n)).1.d.re, .int .i64 ((mTm m n)).1.d.im, .int .i64 ((mTm m n)).1.d.den] ?_) | (with_reducible refine World.rangeAt_alloc ?_ _) | (with_reducible refine (World.rangeAt_drew _ _ _ _).2 ?_)); first | exact HR.out.there | (have hh := fun W h => World.rangeAt_setCells_same W (w.heap.size + 1 + 1) 0 [.int .i64 ((mTm m n)).1.a.re, .int .i64 ((mTm m n)).1.a.im, .int .i64 ((mTm m n)).1.a.den, .int .i64 ((mTm m n)).1.b.re, .int .i64 ((mTm m n)).1.b.im, .int .i64 ((mTm m n)).1.b.den, .int .i64 ((mTm m n)).1.c.re, .int .i64 ((mTm m n)).1.c.im, .int .i64 ((mTm m n)).1.c.den, .int .i64 ((mTm m n)).1.d.re, .int .i64 ((mTm m n)).1.d.im, .int .i64 ((mTm m n)).1.d.den] h; simp only [World.setCells, Nat.zero_add, Nat.reduceAdd] at hh; exact hh _ HR.out.there))) Tryd.underlying41 rfl (by kernel_rfl)) rfl
    · (repeat' first | (with_reducible exact HB.out) | with_reducible refine setCells_below _ _ _ ?_ (by first | omega | (simp <;> omega)) | with_reducible refine Below.setCell ?_ (by show _ ≤ _; first | omega | (simp <;> omega) | simp) _ | with_reducible refine Below.alloc ?_ (by first | omega | (simp <;> omega)) _ | with_reducible apply Below.drew)
  cases q2 : (fIn m.a n.b m.b n.d).2
  · have HG : Hid ((mTm m n) = g4 (fIn m.a n.a m.b n.c).1 (fIn m.a n.b m.b n.d).1 (fIn m.c n.a m.d n.c).1 (fIn m.c n.b m.d n.d).1 false) := by show _ = _; simp [mTm, h1, h2, q1, q2]
    go_enter Tryd.func107, Tryd.ntmps107
    go_wp2_with fail
    refine (smatvalid_any m _).mono ?_
    rintro e w1 ho
    obtain ⟨rfl, hb⟩ := (id ho)
    have kc0 := fun o => hb.cell (p := ⟨w.heap.size, o, none⟩) (by show w.heap.size < _; first | omega | (simp <;> omega))
    have kc1 := fun o => hb.cell (p := ⟨w.heap.size + 1, o, none⟩) (by show w.heap.size + 1 < _; first | omega | (simp <;> omega))
    have kc2 := fun o => hb.cell (p := ⟨w.heap.size + 1 + 1, o, none⟩) (by show w.heap.size + 1 + 1 < _; first | omega | (simp <;> omega))
    have kf0 := fun o => hb.frozen (p := ⟨w.heap.size + 1 + 1, o, none⟩) (by show w.heap.size + 1 + 1 < _; first | omega | (simp <;> omega))
    have hz := hb.size
    (try simp at hz)
    have kl0 : w.heap.size < w1.heap.size := by omega
    have kn0 : ¬ w.heap.size = w1.heap.size := by omega
    have km0 : ¬ w1.heap.size = w.heap.size := by omega
    have kl1 : w.heap.size + 1 < w1.heap.size := by omega
    have kn1 : ¬ w.heap.size + 1 = w1.heap.size := by omega
    have km1 : ¬ w1.heap.size = w.heap.size + 1 := by omega
    have kl2 : w.heap.size + 1 + 1 < w1.heap.size := by omega
    have kn2 : ¬ w.heap.size + 1 + 1 = w1.heap.size := by omega
    have km2 : ¬ w1.heap.size = w.heap.size + 1 + 1 := by omega
    have HB := Lib.hid (show Below w.heap.size w w1 from by (repeat' first | exact Below.refl _ _ | apply bl_alloc | apply bl_drewN | apply bl_drew | refine bl_trans ?_ (by assumption) | refine bl_set ?_ (by first | omega | (simp <;> omega)) _))
    have HR := Lib.hid ((show Room _ (w.heap.size + 1 + 1) 4 from (Room.new' (by simp) rfl)).below hb (by first | omega | (simp <;> omega)))
    clear ho hb
    go_wp2_with fail
    refine (smatvalid_any n _).mono ?_
    rintro e w2 ho
    obtain ⟨rfl, hb⟩ := (id ho)
    have kc0 := fun o => hb.cell (p := ⟨w.heap.size, o, none⟩) (by show w.heap.size < _; first | omega | (simp <;> omega))
    have kc1 := fun o => hb.cell (p := ⟨w.heap.size + 1, o, none⟩) (by show w.heap.size + 1 < _; first | omega | (simp <;> omega))
    have kc2 := fun o => hb.cell (p := ⟨w.heap.size + 1 + 1, o, none⟩) (by show w.heap.size + 1 + 1 < _; first | omega | (simp <;> omega))
    have kf0 := fun o => hb.frozen (p := ⟨w.heap.size + 1 + 1, o, none⟩) (by show w.heap.size + 1 + 1 < _; first | omega | (simp <;> omega))
    have hz := hb.size
    (try simp at hz)
    have kl0 : w.heap.size < w2.heap.size := by omega
    have kn0 : ¬ w.heap.size = w2.heap.size := by omega
    have km0 : ¬ w2.heap.size = w.heap.size := by omega
    have kl1 : w.heap.size + 1 < w2.heap.size := by omega
    have kn1 : ¬ w.heap.size + 1 = w2.heap.size := by omega
    have km1 : ¬ w2.heap.size = w.heap.size + 1 := by omega
    have kl2 : w.heap.size + 1 + 1 < w2.heap.size := by omega
    have kn2 : ¬ w.heap.size + 1 + 1 = w2.heap.size := by omega
    have km2 : ¬ w2.heap.size = w.heap.size + 1 + 1 := by omega
    have HB := Lib.hid (show Below w.heap.size w w2 from by exact HB.out.trans ((show Below _ _ _ from (Below.refl _ _)).trans (hb.mono (by first | omega | (simp <;> omega)))))
    have HR := Lib.hid ((show Room _ (w.heap.size + 1 + 1) 4 from HR.out).below hb (by first | omega | (simp <;> omega)))
    clear ho hb
    go_wp2_with fail
    refine (l3in_any m.a n.a m.b n.c _).mono ?_
    rintro e w3 ho
    obtain ⟨rfl, hb⟩ := ho.fn
    have kc0 := fun o => hb.cell (p := ⟨w.heap.size, o, none⟩) (by show w.heap.size < _; first | omega | (simp <;> omega))
    have kc1 := fun o => hb.cell (p := ⟨w.heap.size + 1, o, none⟩) (by show w.heap.size + 1 < _; first | omega | (simp <;> omega))
    have kc2 := fun o => hb.cell (p := ⟨w.heap.size + 1 + 1, o, none⟩) (by show w.heap.size + 1 + 1 < _; first | omega | (simp <;> omega))
    have kf0 := fun o => hb.frozen (p := ⟨w.heap.size + 1 + 1, o, none⟩) (by show w.heap.size + 1 + 1 < _; first | omega | (simp <;> omega))
    have hz := hb.size
    (try simp at hz)
    have kl0 : w.heap.size < w3.heap.size := by omega
    have kn0 : ¬ w.heap.size = w3.heap.size := by omega
    have km0 : ¬ w3.heap.size = w.heap.size := by omega
    have kl1 : w.heap.size + 1 < w3.heap.size := by omega
    have kn1 : ¬ w.heap.size + 1 = w3.heap.size := by omega
    have km1 : ¬ w3.heap.size = w.heap.size + 1 := by omega
    have kl2 : w.heap.size + 1 + 1 < w3.heap.size := by omega
    have kn2 : ¬ w.heap.size + 1 + 1 = w3.heap.size := by omega
    have km2 : ¬ w3.heap.size = w.heap.size + 1 + 1 := by omega
    have HB := Lib.hid (show Below w.heap.size w w3 from by exact HB.out.trans ((show Below _ _ _ from (Below.refl _ _)).trans (hb.mono (by first | omega | (simp <;> omega)))))
    have HR := Lib.hid ((show Room _ (w.heap.size + 1 + 1) 4 from HR.out).below hb (by first | omega | (simp <;> omega)))
    clear ho hb
    go_wp2_with fail
    refine (l3in_any m.a n.b m.b n.d _).mono ?_
    rintro e w4 ho
    obtain ⟨rfl, hb⟩ := ho.fn
    have kc0 := fun o => hb.cell (p := ⟨w.heap.size, o, none⟩) (by show w.heap.size < _; first | omega | (simp <;> omega))
    have kc1 := fun o => hb.cell (p := ⟨w.heap.size + 1, o, none⟩) (by show w.heap.size + 1 < _; first | omega | (simp <;> omega))
    have kc2 := fun o => hb.cell (p := ⟨w.heap.size + 1 + 1, o, none⟩) (by show w.heap.size + 1 + 1 < _; first | omega | (simp <;> omega))
    have kc3 := fun o => hb.cell (p := ⟨w3.heap.size, o, none⟩) (by show w3.heap.size < _; first | omega | (simp <;> omega))
    have kf0 := fun o => hb.frozen (p := ⟨w.heap.size + 1 + 1, o, none⟩) (by show w.heap.size + 1 + 1 < _; first | omega | (simp <;> omega))
    have hz := hb.size
    (try simp at hz)
    have kl0 : w.heap.size < w4.heap.size := by omega
    have kn0 : ¬ w.heap.size = w4.heap.size := by omega
    have km0 : ¬ w4.heap.size = w.heap.size := by omega
    have kl1 : w.heap.size + 1 < w4.heap.size := by omega
    have kn1 : ¬ w.heap.size + 1 = w4.heap.size := by omega
    have km1 : ¬ w4.heap.size = w.heap.size + 1 := by omega
    have kl2 : w.heap.size + 1 + 1 < w4.heap.size := by omega
    have kn2 : ¬ w.heap.size + 1 + 1 = w4.heap.size := by omega
    have km2 : ¬ w4.heap.size = w.heap.size + 1 + 1 := by omega
    have kl3 : w3.heap.size < w4.heap.size := by omega
    have kn3 : ¬ w3.heap.size = w4.heap.size := by omega
    have km3 : ¬ w4.heap.size = w3.heap.size := by omega
    have HB := Lib.hid (show Below w.heap.size w w4 from by exact HB.out.trans ((show Below _ _ _ from ((Below.refl _ _).alloc (by omega) _)).trans (hb.mono (by first | omega | (simp <;> omega)))))
    have HR := Lib.hid ((show Room _ (w.heap.size + 1 + 1) 4 from (HR.out.alloc (by omega) _)).below hb (by first | omega | (simp <;> omega)))
    clear ho hb
    go_wp2_with fail
    refine (l3in_any m.c n.a m.d n.c _).mono ?_
    rintro e w5 ho
    obtain ⟨rfl, hb⟩ := ho.fn
    have kc0 := fun o => hb.cell (p := ⟨w.heap.size, o, none⟩) (by show w.heap.size < _; first | omega | (simp <;> omega))
    have kc1 := fun o => hb.cell (p := ⟨w.heap.size + 1, o, none⟩) (by show w.heap.size + 1 < _; first | omega | (simp <;> omega))
    have kc2 := fun o => hb.cell (p := ⟨w.heap.size + 1 + 1, o, none⟩) (by show w.heap.size + 1 + 1 < _; first | omega | (simp <;> omega))
    have kc3 := fun o => hb.cell (p := ⟨w3.heap.size, o, none⟩) (by show w3.heap.size < _; first | omega | (simp <;> omega))
    have kc4 := fun o => hb.cell (p := ⟨w4.heap.size, o, none⟩) (by show w4.heap.size < _; first | omega | (simp <;> omega))
    have kf0 := fun o => hb.frozen (p := ⟨w.heap.size + 1 + 1, o, none⟩) (by show w.heap.size + 1 + 1 < _; first | omega | (simp <;> omega))
    have hz := hb.size
    (try simp at hz)
    have kl0 : w.heap.size < w5.heap.size := by omega
    have kn0 : ¬ w.heap.size = w5.heap.size := by omega
    have km0 : ¬ w5.heap.size = w.heap.size := by omega
    have kl1 : w.heap.size + 1 < w5.heap.size := by omega
    have kn1 : ¬ w.heap.size + 1 = w5.heap.size := by omega
    have km1 : ¬ w5.heap.size = w.heap.size + 1 := by omega
    have kl2 : w.heap.size + 1 + 1 < w5.heap.size := by omega
    have kn2 : ¬ w.heap.size + 1 + 1 = w5.heap.size := by omega
    have km2 : ¬ w5.heap.size = w.heap.size + 1 + 1 := by omega
    have kl3 : w3.heap.size < w5.heap.size := by omega
    have kn3 : ¬ w3.heap.size = w5.heap.size := by omega
    have km3 : ¬ w5.heap.size = w3.heap.size := by omega
    have kl4 : w4.heap.size < w5.heap.size := by omega
    have kn4 : ¬ w4.heap.size = w5.heap.size := by omega
    have km4 : ¬ w5.heap.size = w4.heap.size := by omega
    have HB := Lib.hid (show Below w.heap.size w w5 from by exact HB.out.trans ((show Below _ _ _ from ((Below.refl _ _).alloc (by omega) _)).trans (hb.mono (by first | omega | (simp <;> omega)))))
    have HR := Lib.hid ((show Room _ (w.heap.size + 1 + 1) 4 from (HR.out.alloc (by omega) _)).below hb (by first | omega | (simp <;> omega)))
    clear ho hb
    go_wp2_with fail
    refine (l3in_any m.c n.b m.d n.d _).mono ?_
    rintro e w6 ho
    obtain ⟨rfl, hb⟩ := ho.fn
    have kc0 := fun o => hb.cell (p := ⟨w.heap.size, o, none⟩) (by show w.heap.size < _; first | omega | (simp <;> omega))
    have kc1 := fun o => hb.cell (p := ⟨w.heap.size + 1, o, none⟩) (by show w.heap.size + 1 < _; first | omega | (simp <;> omega))
    have kc2 := fun o => hb.cell (p := ⟨w.heap.size + 1 + 1, o, none⟩) (by show w.heap.size + 1 + 1 < _; first | omega | (simp <;> omega))
    have kc3 := fun o => hb.cell (p := ⟨w3.heap.size, o, none⟩) (by show w3.heap.size < _; first | omega | (simp <;> omega))
    have kc4 := fun o => hb.cell (p := ⟨w4.heap.size, o, none⟩) (by show w4.heap.size < _; first | omega | (simp <;> omega))
    have kc5 := fun o => hb.cell (p := ⟨w5.heap.size, o, none⟩) (by show w5.heap.size < _; first | omega | (simp <;> omega))
    have kf0 := fun o => hb.frozen (p := ⟨w.heap.size + 1 + 1, o, none⟩) (by show w.heap.size + 1 + 1 < _; first | omega | (simp <;> omega))
    have hz := hb.size
    (try simp at hz)
    have kl0 : w.heap.size < w6.heap.size := by omega
    have kn0 : ¬ w.heap.size = w6.heap.size := by omega
    have km0 : ¬ w6.heap.size = w.heap.size := by omega
    have kl1 : w.heap.size + 1 < w6.heap.size := by omega
    have kn1 : ¬ w.heap.size + 1 = w6.heap.size := by omega
    have km1 : ¬ w6.heap.size = w.heap.size + 1 := by omega
    have kl2 : w.heap.size + 1 + 1 < w6.heap.size := by omega
    have kn2 : ¬ w.heap.size + 1 + 1 = w6.heap.size := by omega
    have km2 : ¬ w6.heap.size = w.heap.size + 1 + 1 := by omega
    have kl3 : w3.heap.size < w6.heap.size := by omega
    have kn3 : ¬ w3.heap.size = w6.heap.size := by omega
    have km3 : ¬ w6.heap.size = w3.heap.size := by omega
    have kl4 : w4.heap.size < w6.heap.size := by omega
    have kn4 : ¬ w4.heap.size = w6.heap.size := by omega
    have km4 : ¬ w6.heap.size = w4.heap.size := by omega
    have kl5 : w5.heap.size < w6.heap.size := by omega
    have kn5 : ¬ w5.heap.size = w6.heap.size := by omega
    have km5 : ¬ w6.heap.size = w5.heap.size := by omega
    have HB := Lib.hid (show Below w.heap.size w w6 from by exact HB.out.trans ((show Below _ _ _ from ((Below.refl _ _).alloc (by omega) _)).trans (hb.mono (by first | omega | (simp <;> omega)))))
    have HR := Lib.hid ((show Room _ (w.heap.size + 1 + 1) 4 from (HR.out.alloc (by omega) _)).below hb (by first | omega | (simp <;> omega)))
    clear ho hb
    go_wp2_with fail
    refine (l5Four_any _ _ _ _ _ _).mono ?_
    rintro e w7 ho
    rw [← HG.out] at ho
    obtain ⟨rfl, hb⟩ := ho.fn
    have kc0 := fun o => hb.cell (p := ⟨w.heap.size + 1 + 1, o, none⟩) (by show w.heap.size + 1 + 1 < _; first | omega | (simp <;> omega))
    have kf0 := fun o => hb.frozen (p := ⟨w.heap.size + 1 + 1, o, none⟩) (by show w.heap.size + 1 + 1 < _; first | omega | (simp <;> omega))
    have hz := hb.size
    (try simp at hz)
    have kl0 : w.heap.size + 1 + 1 < w7.heap.size := by omega
    have kn0 : ¬ w.heap.size + 1 + 1 = w7.heap.size := by omega
    have km0 : ¬ w7.heap.size = w.heap.size + 1 + 1 := by omega
    have HB := Lib.hid (show Below w.heap.size w w7 from by exact HB.out.trans ((show Below _ _ _ from ((Below.refl _ _).alloc (by omega) _)).trans (hb.mono (by first | omega | (simp <;> omega)))))
    have HR := Lib.hid ((show Room _ (w.heap.size + 1 + 1) 4 from (HR.out.alloc (by omega) _)).below hb (by first | omega | (simp <;> omega)))
    clear ho hb
    go_wp2
    refine bodyPost_ret (v := .tuple #[.agg #[.int .i64 ((mTm m n)).1.a.re, .int .i64 ((mTm m n)).1.a.im, .int .i64 ((mTm m n)).1.a.den, .int .i64 ((mTm m n)).1.b.re, .int .i64 ((mTm m n)).1.b.im, .int .i64 ((mTm m n)).1.b.den, .int .i64 ((mTm m n)).1.c.re, .int .i64 ((mTm m n)).1.c.im, .int .i64 ((mTm m n)).1.c.den, .int .i64 ((mTm m n)).1.d.re, .int .i64 ((mTm m n)).1.d.im, .int .i64 ((mTm m n)).1.d.den], .bool ((mTm m n)).2]) ?_ rfl (M4Out.self ?_)
    · exact Eq.trans (results_cell_mid2 Tryd.results107 _ _ (w.heap.size + 1 + 1) [.int .i64 ((mTm m n)).1.a.re, .int .i64 ((mTm m n)).1.a.im, .int .i64 ((mTm m n)).1.a.den, .int .i64 ((mTm m n)).1.b.re, .int .i64 ((mTm m n)).1.b.im, .int .i64 ((mTm m n)).1.b.den, .int .i64 ((mTm m n)).1.c.re, .int .i64 ((mTm m n)).1.c.im, .int .i64 ((mTm m n)).1.c.den, .int .i64 ((mTm m n)).1.d.re, .int .i64 ((mTm m n)).1.d.im, .int .i64 ((mTm m n)).1.d.den] _ (by rfl) (by ((repeat' first | (with_reducible refine World.rangeAt_setCells_same _ (w.heap.size + 1 + 1) 0 [.int .i64 ((mTm m n)).1.a.re, .int .i64 ((mTm m n)).1.a.im, .int .i64 ((mTm m n)).1.a.den, .int .i64 ((mTm m n)).1.b.re, .int .i64 ((mTm m n)).1.b.im, .int .i64 ((mTm m n)).1.b.den, .int .i64 ((mTm m n)).1.c.re, .int .i64 ((mTm m n)).1.c.im, .int .i64 ((mTm m n)).1.c.den, .int .i64 ((mTm m n)).1.d.re, .int .i64 ((mTm m n)).1.d.im, .int .i64 ((mTm m n)).1.d.den] ?_) | (with_reducible refine World.rangeAt_alloc ?_ _) | (with_reducible refine (World.rangeAt_drew _ _ _ _).2 ?_)); first | exact HR.out.there | (have hh := fun W h => World.rangeAt_setCells_same W (w.heap.size + 1 + 1) 0 [.int .i64 ((mTm m n)).1.a.re, .int .i64 ((mTm m n)).1.a.im, .int .i64 ((mTm m n)).1.a.den, .int .i64 ((mTm m n)).1.b.re, .int .i64 ((mTm m n)).1.b.im, .int .i64 ((mTm m n)).1.b.den, .int .i64 ((mTm m n)).1.c.re, .int .i64 ((mTm m n)).1.c.im, .int .i64 ((mTm m n)).1.c.den, .int .i64 ((mTm m n)).1.d.re, .int .i64 ((mTm m n)).1.d.im, .int .i64 ((mTm m n)).1.d.den] h; simp only [World.setCells, Nat.zero_add, Nat.reduceAdd] at hh; exact hh _ HR.out.there))) Tryd.underlying41 rfl (by kernel_rfl)) rfl
    · (repeat' first | (with_reducible exact HB.out) | with_reducible refine setCells_below _ _ _ ?_ (by first | omega | (simp <;> omega)) | with_reducible refine Below.setCell ?_ (by show _ ≤ _; first | omega | (simp <;> omega) | simp) _ | with_reducible refine Below.alloc ?_ (by first | omega | (simp <;> omega)) _ | with_reducible apply Below.drew)
  cases q3 : (fIn m.c n.a m.d n.c).2
  · have HG : Hid ((mTm m n) = g4 (fIn m.a n.a m.b n.c).1 (fIn m.a n.b m.b n.d).1 (fIn m.c n.a m.d n.c).1 (fIn m.c n.b m.d n.d).1 false) := by show _ = _; simp [mTm, h1, h2, q1, q2, q3]
    go_enter Tryd.func107, Tryd.ntmps107
    go_wp2_with fail
    refine (smatvalid_any m _).mono ?_
    rintro e w1 ho
    obtain ⟨rfl, hb⟩ := (id ho)
    have kc0 := fun o => hb.cell (p := ⟨w.heap.size, o, none⟩) (by show w.heap.size < _; first | omega | (simp <;> omega))
    have kc1 := fun o => hb.cell (p := ⟨w.heap.size + 1, o, none⟩) (by show w.heap.size + 1 < _; first | omega | (simp <;> omega))
    have kc2 := fun o => hb.cell (p := ⟨w.heap.size + 1 + 1, o, none⟩) (by show w.heap.size + 1 + 1 < _; first | omega | (simp <;> omega))
    have kf0 := fun o => hb.frozen (p := ⟨w.heap.size + 1 + 1, o, none⟩) (by show w.heap.size + 1 + 1 < _; first | omega | (simp <;> omega))
    have hz := hb.size
    (try simp at hz)
    have kl0 : w.heap.size < w1.heap.size := by omega
    have kn0 : ¬ w.heap.size = w1.heap.size := by omega
    have km0 : ¬ w1.heap.size = w.heap.size := by omega
    have kl1 : w.heap.size + 1 < w1.heap.size := by omega
    have kn1 : ¬ w.heap.size + 1 = w1.heap.size := by omega
    have km1 : ¬ w1.heap.size = w.heap.size + 1 := by omega
    have kl2 : w.heap.size + 1 + 1 < w1.heap.size := by omega
    have kn2 : ¬ w.heap.size + 1 + 1 = w1.heap.size := by omega
    have km2 : ¬ w1.heap.size = w.heap.size + 1 + 1 := by omega
    have HB := Lib.hid (show Below w.heap.size w w1 from by (repeat' first | exact Below.refl _ _ | apply bl_alloc | apply bl_drewN | apply bl_drew | refine bl_trans ?_ (by assumption) | refine bl_set ?_ (by first | omega | (simp <;> omega)) _))
    have HR := Lib.hid ((show Room _ (w.heap.size + 1 + 1) 4 from (Room.new' (by simp) rfl)).below hb (by first | omega | (simp <;> omega)))
    clear ho hb
    go_wp2_with fail
    refine (smatvalid_any n _).mono ?_
    rintro e w2 ho
    obtain ⟨rfl, hb⟩ := (id ho)
    have kc0 := fun o => hb.cell (p := ⟨w.heap.size, o, none⟩) (by show w.heap.size < _; first | omega | (simp <;> omega))
    have kc1 := fun o => hb.cell (p := ⟨w.heap.size + 1, o, none⟩) (by show w.heap.size + 1 < _; first | omega | (simp <;> omega))
    have kc2 := fun o => hb.cell (p := ⟨w.heap.size + 1 + 1, o, none⟩) (by show w.heap.size + 1 + 1 < _; first | omega | (simp <;> omega))
    have kf0 := fun o => hb.frozen (p := ⟨w.heap.size + 1 + 1, o, none⟩) (by show w.heap.size + 1 + 1 < _; first | omega | (simp <;> omega))
    have hz := hb.size
    (try simp at hz)
    have kl0 : w.heap.size < w2.heap.size := by omega
    have kn0 : ¬ w.heap.size = w2.heap.size := by omega
    have km0 : ¬ w2.heap.size = w.heap.size := by omega
    have kl1 : w.heap.size + 1 < w2.heap.size := by omega
    have kn1 : ¬ w.heap.size + 1 = w2.heap.size := by omega
    have km1 : ¬ w2.heap.size = w.heap.size + 1 := by omega
    have kl2 : w.heap.size + 1 + 1 < w2.heap.size := by omega
    have kn2 : ¬ w.heap.size + 1 + 1 = w2.heap.size := by omega
    have km2 : ¬ w2.heap.size = w.heap.size + 1 + 1 := by omega
    have HB := Lib.hid (show Below w.heap.size w w2 from by exact HB.out.trans ((show Below _ _ _ from (Below.refl _ _)).trans (hb.mono (by first | omega | (simp <;> omega)))))
    have HR := Lib.hid ((show Room _ (w.heap.size + 1 + 1) 4 from HR.out).below hb (by first | omega | (simp <;> omega)))
    clear ho hb
    go_wp2_with fail
    refine (l3in_any m.a n.a m.b n.c _).mono ?_
    rintro e w3 ho
    obtain ⟨rfl, hb⟩ := ho.fn
    have kc0 := fun o => hb.cell (p := ⟨w.heap.size, o, none⟩) (by show w.heap.size < _; first | omega | (simp <;> omega))
    have kc1 := fun o => hb.cell (p := ⟨w.heap.size + 1, o, none⟩) (by show w.heap.size + 1 < _; first | omega | (simp <;> omega))
    have kc2 := fun o => hb.cell (p := ⟨w.heap.size + 1 + 1, o, none⟩) (by show w.heap.size + 1 + 1 < _; first | omega | (simp <;> omega))
    have kf0 := fun o => hb.frozen (p := ⟨w.heap.size + 1 + 1, o, none⟩) (by show w.heap.size + 1 + 1 < _; first | omega | (simp <;> omega))
    have hz := hb.size
    (try simp at hz)
    have kl0 : w.heap.size < w3.heap.size := by omega
    have kn0 : ¬ w.heap.size = w3.heap.size := by omega
    have km0 : ¬ w3.heap.size = w.heap.size := by omega
    have kl1 : w.heap.size + 1 < w3.heap.size := by omega
    have kn1 : ¬ w.heap.size + 1 = w3.heap.size := by omega
    have km1 : ¬ w3.heap.size = w.heap.size + 1 := by omega
    have kl2 : w.heap.size + 1 + 1 < w3.heap.size := by omega
    have kn2 : ¬ w.heap.size + 1 + 1 = w3.heap.size := by omega
    have km2 : ¬ w3.heap.size = w.heap.size + 1 + 1 := by omega
    have HB := Lib.hid (show Below w.heap.size w w3 from by exact HB.out.trans ((show Below _ _ _ from (Below.refl _ _)).trans (hb.mono (by first | omega | (simp <;> omega)))))
    have HR := Lib.hid ((show Room _ (w.heap.size + 1 + 1) 4 from HR.out).below hb (by first | omega | (simp <;> omega)))
    clear ho hb
    go_wp2_with fail
    refine (l3in_any m.a n.b m.b n.d _).mono ?_
    rintro e w4 ho
    obtain ⟨rfl, hb⟩ := ho.fn
    have kc0 := fun o => hb.cell (p := ⟨w.heap.size, o, none⟩) (by show w.heap.size < _; first | omega | (simp <;> omega))
    have kc1 := fun o => hb.cell (p := ⟨w.heap.size + 1, o, none⟩) (by show w.heap.size + 1 < _; first | omega | (simp <;> omega))
    have kc2 := fun o => hb.cell (p := ⟨w.heap.size + 1 + 1, o, none⟩) (by show w.heap.size + 1 + 1 < _; first | omega | (simp <;> omega))
    have kc3 := fun o => hb.cell (p := ⟨w3.heap.size, o, none⟩) (by show w3.heap.size < _; first | omega | (simp <;> omega))
    have kf0 := fun o => hb.frozen (p := ⟨w.heap.size + 1 + 1, o, none⟩) (by show w.heap.size + 1 + 1 < _; first | omega | (simp <;> omega))
    have hz := hb.size
    (try simp at hz)
    have kl0 : w.heap.size < w4.heap.size := by omega
    have kn0 : ¬ w.heap.size = w4.heap.size := by omega
    have km0 : ¬ w4.heap.size = w.heap.size := by omega
    have kl1 : w.heap.size + 1 < w4.heap.size := by omega
    have kn1 : ¬ w.heap.size + 1 = w4.heap.size := by omega
    have km1 : ¬ w4.heap.size = w.heap.size + 1 := by omega
    have kl2 : w.heap.size + 1 + 1 < w4.heap.size := by omega
    have kn2 : ¬ w.heap.size + 1 + 1 = w4.heap.size := by omega
    have km2 : ¬ w4.heap.size = w.heap.size + 1 + 1 := by omega
    have kl3 : w3.heap.size < w4.heap.size := by omega
    have kn3 : ¬ w3.heap.size = w4.heap.size := by omega
    have km3 : ¬ w4.heap.size = w3.heap.size := by omega
    have HB := Lib.hid (show Below w.heap.size w w4 from by exact HB.out.trans ((show Below _ _ _ from ((Below.refl _ _).alloc (by omega) _)).trans (hb.mono (by first | omega | (simp <;> omega)))))
    have HR := Lib.hid ((show Room _ (w.heap.size + 1 + 1) 4 from (HR.out.alloc (by omega) _)).below hb (by first | omega | (simp <;> omega)))
    clear ho hb
    go_wp2_with fail
    refine (l3in_any m.c n.a m.d n.c _).mono ?_
    rintro e w5 ho
    obtain ⟨rfl, hb⟩ := ho.fn
    have kc0 := fun o => hb.cell (p := ⟨w.heap.size, o, none⟩) (by show w.heap.size < _; first | omega | (simp <;> omega))
    have kc1 := fun o => hb.cell (p := ⟨w.heap.size + 1, o, none⟩) (by show w.heap.size + 1 < _; first | omega | (simp <;> omega))
    have kc2 := fun o => hb.cell (p := ⟨w.heap.size + 1 + 1, o, none⟩) (by show w.heap.size + 1 + 1 < _; first | omega | (simp <;> omega))
    have kc3 := fun o => hb.cell (p := ⟨w3.heap.size, o, none⟩) (by show w3.heap.size < _; first | omega | (simp <;> omega))
    have kc4 := fun o => hb.cell (p := ⟨w4.heap.size, o, none⟩) (by show w4.heap.size < _; first | omega | (simp <;> omega))
    have kf0 := fun o => hb.frozen (p := ⟨w.heap.size + 1 + 1, o, none⟩) (by show w.heap.size + 1 + 1 < _; first | omega | (simp <;> omega))
    have hz := hb.size
    (try simp at hz)
    have kl0 : w.heap.size < w5.heap.size := by omega
    have kn0 : ¬ w.heap.size = w5.heap.size := by omega
    have km0 : ¬ w5.heap.size = w.heap.size := by omega
    have kl1 : w.heap.size + 1 < w5.heap.size := by omega
    have kn1 : ¬ w.heap.size + 1 = w5.heap.size := by omega
    have km1 : ¬ w5.heap.size = w.heap.size + 1 := by omega
    have kl2 : w.heap.size + 1 + 1 < w5.heap.size := by omega
    have kn2 : ¬ w.heap.size + 1 + 1 = w5.heap.size := by omega
    have km2 : ¬ w5.heap.size = w.heap.size + 1 + 1 := by omega
    have kl3 : w3.heap.size < w5.heap.size := by omega
    have kn3 : ¬ w3.heap.size = w5.heap.size := by omega
    have km3 : ¬ w5.heap.size = w3.heap.size := by omega
    have kl4 : w4.heap.size < w5.heap.size := by omega
    have kn4 : ¬ w4.heap.size = w5.heap.size := by omega
    have km4 : ¬ w5.heap.size = w4.heap.size := by omega
    have HB := Lib.hid (show Below w.heap.size w w5 from by exact HB.out.trans ((show Below _ _ _ from ((Below.refl _ _).alloc (by omega) _)).trans (hb.mono (by first | omega | (simp <;> omega)))))
    have HR := Lib.hid ((show Room _ (w.heap.size + 1 + 1) 4 from (HR.out.alloc (by omega) _)).below hb (by first | omega | (simp <;> omega)))
    clear ho hb
    go_wp2_with fail
    refine (l3in_any m.c n.b m.d n.d _).mono ?_
    rintro e w6 ho
    obtain ⟨rfl, hb⟩ := ho.fn
    have kc0 := fun o => hb.cell (p := ⟨w.heap.size, o, none⟩) (by show w.heap.size < _; first | omega | (simp <;> omega))
    have kc1 := fun o => hb.cell (p := ⟨w.heap.size + 1, o, none⟩) (by show w.heap.size + 1 < _; first | omega | (simp <;> omega))
    have kc2 := fun o => hb.cell (p := ⟨w.heap.size + 1 + 1, o, none⟩) (by show w.heap.size + 1 + 1 < _; first | omega | (simp <;> omega))
    have kc3 := fun o => hb.cell (p := ⟨w3.heap.size, o, none⟩) (by show w3.heap.size < _; first | omega | (simp <;> omega))
    have kc4 := fun o => hb.cell (p := ⟨w4.heap.size, o, none⟩) (by show w4.heap.size < _; first | omega | (simp <;> omega))
    have kc5 := fun o => hb.cell (p := ⟨w5.heap.size, o, none⟩) (by show w5.heap.size < _; first | omega | (simp <;> omega))
    have kf0 := fun o => hb.frozen (p := ⟨w.heap.size + 1 + 1, o, none⟩) (by show w.heap.size + 1 + 1 < _; first | omega | (simp <;> omega))
    have hz := hb.size
    (try simp at hz)
    have kl0 : w.heap.size < w6.heap.size := by omega
    have kn0 : ¬ w.heap.size = w6.heap.size := by omega
    have km0 : ¬ w6.heap.size = w.heap.size := by omega
    have kl1 : w.heap.size + 1 < w6.heap.size := by omega
    have kn1 : ¬ w.heap.size + 1 = w6.heap.size := by omega
    have km1 : ¬ w6.heap.size = w.heap.size + 1 := by omega
    have kl2 : w.heap.size + 1 + 1 < w6.heap.size := by omega
    have kn2 : ¬ w.heap.size + 1 + 1 = w6.heap.size := by omega
    have km2 : ¬ w6.heap.size = w.heap.size + 1 + 1 := by omega
    have kl3 : w3.heap.size < w6.heap.size := by omega
    have kn3 : ¬ w3.heap.size = w6.heap.size := by omega
    have km3 : ¬ w6.heap.size = w3.heap.size := by omega
    have kl4 : w4.heap.size < w6.heap.size := by omega
    have kn4 : ¬ w4.heap.size = w6.heap.size := by omega
    have km4 : ¬ w6.heap.size = w4.heap.size := by omega
    have kl5 : w5.heap.size < w6.heap.size := by omega
    have kn5 : ¬ w5.heap.size = w6.heap.size := by omega
    have km5 : ¬ w6.heap.size = w5.heap.size := by omega
    have HB := Lib.hid (show Below w.heap.size w w6 from by exact HB.out.trans ((show Below _ _ _ from ((Below.refl _ _).alloc (by omega) _)).trans (hb.mono (by first | omega | (simp <;> omega)))))
    have HR := Lib.hid ((show Room _ (w.heap.size + 1 + 1) 4 from (HR.out.alloc (by omega) _)).below hb (by first | omega | (simp <;> omega)))
    clear ho hb
    go_wp2_with fail
    refine (l5Four_any _ _ _ _ _ _).mono ?_
    rintro e w7 ho
    rw [← HG.out] at ho
    obtain ⟨rfl, hb⟩ := ho.fn
    have kc0 := fun o => hb.cell (p := ⟨w.heap.size + 1 + 1, o, none⟩) (by show w.heap.size + 1 + 1 < _; first | omega | (simp <;> omega))
    have kf0 := fun o => hb.frozen (p := ⟨w.heap.size + 1 + 1, o, none⟩) (by show w.heap.size + 1 + 1 < _; first | omega | (simp <;> omega))
    have hz := hb.size
    (try simp at hz)
    have kl0 : w.heap.size + 1 + 1 < w7.heap.size := by omega
    have kn0 : ¬ w.heap.size + 1 + 1 = w7.heap.size := by omega
    have km0 : ¬ w7.heap.size = w.heap.size + 1 + 1 := by omega
    have HB := Lib.hid (show Below w.heap.size w w7 from by exact HB.out.trans ((show Below _ _ _ from ((Below.refl _ _).alloc (by omega) _)).trans (hb.mono (by first | omega | (simp <;> omega)))))
    have HR := Lib.hid ((show Room _ (w.heap.size + 1 + 1) 4 from (HR.out.alloc (by omega) _)).below hb (by first | omega | (simp <;> omega)))
    clear ho hb
    go_wp2
    refine bodyPost_ret (v := .tuple #[.agg #[.int .i64 ((mTm m n)).1.a.re, .int .i64 ((mTm m n)).1.a.im, .int .i64 ((mTm m n)).1.a.den, .int .i64 ((mTm m n)).1.b.re, .int .i64 ((mTm m n)).1.b.im, .int .i64 ((mTm m n)).1.b.den, .int .i64 ((mTm m n)).1.c.re, .int .i64 ((mTm m n)).1.c.im, .int .i64 ((mTm m n)).1.c.den, .int .i64 ((mTm m n)).1.d.re, .int .i64 ((mTm m n)).1.d.im, .int .i64 ((mTm m n)).1.d.den], .bool ((mTm m n)).2]) ?_ rfl (M4Out.self ?_)
    · exact Eq.trans (results_cell_mid2 Tryd.results107 _ _ (w.heap.size + 1 + 1) [.int .i64 ((mTm m n)).1.a.re, .int .i64 ((mTm m n)).1.a.im, .int .i64 ((mTm m n)).1.a.den, .int .i64 ((mTm m n)).1.b.re, .int .i64 ((mTm m n)).1.b.im, .int .i64 ((mTm m n)).1.b.den, .int .i64 ((mTm m n)).1.c.re, .int .i64 ((mTm m n)).1.c.im, .int .i64 ((mTm m n)).1.c.den, .int .i64 ((mTm m n)).1.d.re, .int .i64 ((mTm m n)).1.d.im, .int .i64 ((mTm m n)).1.d.den] _ (by rfl) (by ((repeat' first | (with_reducible refine World.rangeAt_setCells_same _ (w.heap.size + 1 + 1) 0 [.int .i64 ((mTm m n)).1.a.re, .int .i64 ((mTm m n)).1.a.im, .int .i64 ((mTm m n)).1.a.den, .int .i64 ((mTm m n)).1.b.re, .int .i64 ((mTm m n)).1.b.im, .int .i64 ((mTm m n)).1.b.den, .int .i64 ((mTm m n)).1.c.re, .int .i64 ((mTm m n)).1.c.im, .int .i64 ((mTm m n)).1.c.den, .int .i64 ((mTm m n)).1.d.re, .int .i64 ((mTm m n)).1.d.im, .int .i64 ((mTm m n)).1.d.den] ?_) | (with_reducible refine World.rangeAt_alloc ?_ _) | (with_reducible refine (World.rangeAt_drew _ _ _ _).2 ?_)); first | exact HR.out.there | (have hh := fun W h => World.rangeAt_setCells_same W (w.heap.size + 1 + 1) 0 [.int .i64 ((mTm m n)).1.a.re, .int .i64 ((mTm m n)).1.a.im, .int .i64 ((mTm m n)).1.a.den, .int .i64 ((mTm m n)).1.b.re, .int .i64 ((mTm m n)).1.b.im, .int .i64 ((mTm m n)).1.b.den, .int .i64 ((mTm m n)).1.c.re, .int .i64 ((mTm m n)).1.c.im, .int .i64 ((mTm m n)).1.c.den, .int .i64 ((mTm m n)).1.d.re, .int .i64 ((mTm m n)).1.d.im, .int .i64 ((mTm m n)).1.d.den] h; simp only [World.setCells, Nat.zero_add, Nat.reduceAdd] at hh; exact hh _ HR.out.there))) Tryd.underlying41 rfl (by kernel_rfl)) rfl
    · (repeat' first | (with_reducible exact HB.out) | with_reducible refine setCells_below _ _ _ ?_ (by first | omega | (simp <;> omega)) | with_reducible refine Below.setCell ?_ (by show _ ≤ _; first | omega | (simp <;> omega) | simp) _ | with_reducible refine Below.alloc ?_ (by first | omega | (simp <;> omega)) _ | with_reducible apply Below.drew)
  cases q4 : (fIn m.c n.b m.d n.d).2
  · have HG : Hid ((mTm m n) = g4 (fIn m.a n.a m.b n.c).1 (fIn m.a n.b m.b n.d).1 (fIn m.c n.a m.d n.c).1 (fIn m.c n.b m.d n.d).1 false) := by show _ = _; simp [mTm, h1, h2, q1, q2, q3, q4]
    go_enter Tryd.func107, Tryd.ntmps107
    go_wp2_with fail
    refine (smatvalid_any m _).mono ?_
    rintro e w1 ho
    obtain ⟨rfl, hb⟩ := (id ho)
    have kc0 := fun o => hb.cell (p := ⟨w.heap.size, o, none⟩) (by show w.heap.size < _; first | omega | (simp <;> omega))
    have kc1 := fun o => hb.cell (p := ⟨w.heap.size + 1, o, none⟩) (by show w.heap.size + 1 < _; first | omega | (simp <;> omega))
    have kc2 := fun o => hb.cell (p := ⟨w.heap.size + 1 + 1, o, none⟩) (by show w.heap.size + 1 + 1 < _; first | omega | (simp <;> omega))
    have kf0 := fun o => hb.frozen (p := ⟨w.heap.size + 1 + 1, o, none⟩) (by show w.heap.size + 1 + 1 < _; first | omega | (simp <;> omega))
    have hz := hb.size
    (try simp at hz)
    have kl0 : w.heap.size < w1.heap.size := by omega
    have kn0 : ¬ w.heap.size = w1.heap.size := by omega
    have km0 : ¬ w1.heap.size = w.heap.size := by omega
    have kl1 : w.heap.size + 1 < w1.heap.size := by omega
    have kn1 : ¬ w.heap.size + 1 = w1.heap.size := by omega
    have km1 : ¬ w1.heap.size = w.heap.size + 1 := by omega
    have kl2 : w.heap.size + 1 + 1 < w1.heap.size := by omega
    have kn2 : ¬ w.heap.size + 1 + 1 = w1.heap.size := by omega
    have km2 : ¬ w1.heap.size = w.heap.size + 1 + 1 := by omega
    have HB := Lib.hid (show Below w.heap.size w w1 from by (repeat' first | exact Below.refl _ _ | apply bl_alloc | apply bl_drewN | apply bl_drew | refine bl_trans ?_ (by assumption) | refine bl_set ?_ (by first | omega | (simp <;> omega)) _))
    have HR := Lib.hid ((show Room _ (w.heap.size + 1 + 1) 4 from (Room.new' (by simp) rfl)).below hb (by first | omega | (simp <;> omega)))
    clear ho hb
    go_wp2_with fail
    refine (smatvalid_any n _).mono ?_
    rintro e w2 ho
    obtain ⟨rfl, hb⟩ := (id ho)
    have kc0 := fun o => hb.cell (p := ⟨w.heap.size, o, none⟩) (by show w.heap.size < _; first | omega | (simp <;> omega))
    have kc1 := fun o => hb.cell (p := ⟨w.heap.size + 1, o, none⟩) (by show w.heap.size + 1 < _; first | omega | (simp <;> omega))
    have kc2 := fun o => hb.cell (p := ⟨w.heap.size + 1 + 1, o, none⟩) (by show w.heap.size + 1 + 1 < _; first | omega | (simp <;> omega))
    have kf0 := fun o => hb.frozen (p := ⟨w.heap.size + 1 + 1, o, none⟩) (by show w.heap.size + 1 + 1 < _; first | omega | (simp <;> omega))
    have hz := hb.size
    (try simp at hz)
    have kl0 : w.heap.size < w2.heap.size := by omega
    have kn0 : ¬ w.heap.size = w2.heap.size := by omega
    have km0 : ¬ w2.heap.size = w.heap.size := by omega
    have kl1 : w.heap.size + 1 < w2.heap.size := by omega
    have kn1 : ¬ w.heap.size + 1 = w2.heap.size := by omega
    have km1 : ¬ w2.heap.size = w.heap.size + 1 := by omega
    have kl2 : w.heap.size + 1 + 1 < w2.heap.size := by omega
    have kn2 : ¬ w.heap.size + 1 + 1 = w2.heap.size := by omega
    have km2 : ¬ w2.heap.size = w.heap.size + 1 + 1 := by omega
    have HB := Lib.hid (show Below w.heap.size w w2 from by exact HB.out.trans ((show Below _ _ _ from (Below.refl _ _)).trans (hb.mono (by first | omega | (simp <;> omega)))))
    have HR := Lib.hid ((show Room _ (w.heap.size + 1 + 1) 4 from HR.out).below hb (by first | omega | (simp <;> omega)))
    clear ho hb
    go_wp2_with fail
    refine (l3in_any m.a n.a m.b n.c _).mono ?_
    rintro e w3 ho
    obtain ⟨rfl, hb⟩ := ho.fn
    have kc0 := fun o => hb.cell (p := ⟨w.heap.size, o, none⟩) (by show w.heap.size < _; first | omega | (simp <;> omega))
    have kc1 := fun o => hb.cell (p := ⟨w.heap.size + 1, o, none⟩) (by show w.heap.size + 1 < _; first | omega | (simp <;> omega))
    have kc2 := fun o => hb.cell (p := ⟨w.heap.size + 1 + 1, o, none⟩) (by show w.heap.size + 1 + 1 < _; first | omega | (simp <;> omega))
    have kf0 := fun o => hb.frozen (p := ⟨w.heap.size + 1 + 1, o, none⟩) (by show w.heap.size + 1 + 1 < _; first | omega | (simp <;> omega))
    have hz := hb.size
    (try simp at hz)
    have kl0 : w.heap.size < w3.heap.size := by omega
    have kn0 : ¬ w.heap.size = w3.heap.size := by omega
    have km0 : ¬ w3.heap.size = w.heap.size := by omega
    have kl1 : w.heap.size + 1 < w3.heap.size := by omega
    have kn1 : ¬ w.heap.size + 1 = w3.heap.size := by omega
    have km1 : ¬ w3.heap.size = w.heap.size + 1 := by omega
    have kl2 : w.heap.size + 1 + 1 < w3.heap.size := by omega
    have kn2 : ¬ w.heap.size + 1 + 1 = w3.heap.size := by omega
    have km2 : ¬ w3.heap.size = w.heap.size + 1 + 1 := by omega
    have HB := Lib.hid (show Below w.heap.size w w3 from by exact HB.out.trans ((show Below _ _ _ from (Below.refl _ _)).trans (hb.mono (by first | omega | (simp <;> omega)))))
    have HR := Lib.hid ((show Room _ (w.heap.size + 1 + 1) 4 from HR.out).below hb (by first | omega | (simp <;> omega)))
    clear ho hb
    go_wp2_with fail
    refine (l3in_any m.a n.b m.b n.d _).mono ?_
    rintro e w4 ho
    obtain ⟨rfl, hb⟩ := ho.fn
    have kc0 := fun o => hb.cell (p := ⟨w.heap.size, o, none⟩) (by show w.heap.size < _; first | omega | (simp <;> omega))
    have kc1 := fun o => hb.cell (p := ⟨w.heap.size + 1, o, none⟩) (by show w.heap.size + 1 < _; first | omega | (simp <;> omega))
    have kc2 := fun o => hb.cell (p := ⟨w.heap.size + 1 + 1, o, none⟩) (by show w.heap.size + 1 + 1 < _; first | omega | (simp <;> omega))
    have kc3 := fun o => hb.cell (p := ⟨w3.heap.size, o, none⟩) (by show w3.heap.size < _; first | omega | (simp <;> omega))
    have kf0 := fun o => hb.frozen (p := ⟨w.heap.size + 1 + 1, o, none⟩) (by show w.heap.size + 1 + 1 < _; first | omega | (simp <;> omega))
    have hz := hb.size
    (try simp at hz)
    have kl0 : w.heap.size < w4.heap.size := by omega
    have kn0 : ¬ w.heap.size = w4.heap.size := by omega
    have km0 : ¬ w4.heap.size = w.heap.size := by omega
    have kl1 : w.heap.size + 1 < w4.heap.size := by omega
    have kn1 : ¬ w.heap.size + 1 = w4.heap.size := by omega
    have km1 : ¬ w4.heap.size = w.heap.size + 1 := by omega
    have kl2 : w.heap.size + 1 + 1 < w4.heap.size := by omega
    have kn2 : ¬ w.heap.size + 1 + 1 = w4.heap.size := by omega
    have km2 : ¬ w4.heap.size = w.heap.size + 1 + 1 := by omega
    have kl3 : w3.heap.size < w4.heap.size := by omega
    have kn3 : ¬ w3.heap.size = w4.heap.size := by omega
    have km3 : ¬ w4.heap.size = w3.heap.size := by omega
    have HB := Lib.hid (show Below w.heap.size w w4 from by exact HB.out.trans ((show Below _ _ _ from ((Below.refl _ _).alloc (by omega) _)).trans (hb.mono (by first | omega | (simp <;> omega)))))
    have HR := Lib.hid ((show Room _ (w.heap.size + 1 + 1) 4 from (HR.out.alloc (by omega) _)).below hb (by first | omega | (simp <;> omega)))
    clear ho hb
    go_wp2_with fail
    refine (l3in_any m.c n.a m.d n.c _).mono ?_
    rintro e w5 ho
    obtain ⟨rfl, hb⟩ := ho.fn
    have kc0 := fun o => hb.cell (p := ⟨w.heap.size, o, none⟩) (by show w.heap.size < _; first | omega | (simp <;> omega))
    have kc1 := fun o => hb.cell (p := ⟨w.heap.size + 1, o, none⟩) (by show w.heap.size + 1 < _; first | omega | (simp <;> omega))
    have kc2 := fun o => hb.cell (p := ⟨w.heap.size + 1 + 1, o, none⟩) (by show w.heap.size + 1 + 1 < _; first | omega | (simp <;> omega))
    have kc3 := fun o => hb.cell (p := ⟨w3.heap.size, o, none⟩) (by show w3.heap.size < _; first | omega | (simp <;> omega))
    have kc4 := fun o => hb.cell (p := ⟨w4.heap.size, o, none⟩) (by show w4.heap.size < _; first | omega | (simp <;> omega))
    have kf0 := fun o => hb.frozen (p := ⟨w.heap.size + 1 + 1, o, none⟩) (by show w.heap.size + 1 + 1 < _; first | omega | (simp <;> omega))
    have hz := hb.size
    (try simp at hz)
    have kl0 : w.heap.size < w5.heap.size := by omega
    have kn0 : ¬ w.heap.size = w5.heap.size := by omega
    have km0 : ¬ w5.heap.size = w.heap.size := by omega
    have kl1 : w.heap.size + 1 < w5.heap.size := by omega
    have kn1 : ¬ w.heap.size + 1 = w5.heap.size := by omega
    have km1 : ¬ w5.heap.size = w.heap.size + 1 := by omega
    have kl2 : w.heap.size + 1 + 1 < w5.heap.size := by omega
    have kn2 : ¬ w.heap.size + 1 + 1 = w5.heap.size := by omega
    have km2 : ¬ w5.heap.size = w.heap.size + 1 + 1 := by omega
    have kl3 : w3.heap.size < w5.heap.size := by omega
    have kn3 : ¬ w3.heap.size = w5.heap.size := by omega
    have km3 : ¬ w5.heap.size = w3.heap.size := by omega
    have kl4 : w4.heap.size < w5.heap.size := by omega
    have kn4 : ¬ w4.heap.size = w5.heap.size := by omega
    have km4 : ¬ w5.heap.size = w4.heap.size := by omega
    have HB := Lib.hid (show Below w.heap.size w w5 from by exact HB.out.trans ((show Below _ _ _ from ((Below.refl _ _).alloc (by omega) _)).trans (hb.mono (by first | omega | (simp <;> omega)))))
    have HR := Lib.hid ((show Room _ (w.heap.size + 1 + 1) 4 from (HR.out.alloc (by omega) _)).below hb (by first | omega | (simp <;> omega)))
    clear ho hb
    go_wp2_with fail
    refine (l3in_any m.c n.b m.d n.d _).mono ?_
    rintro e w6 ho
    obtain ⟨rfl, hb⟩ := ho.fn
    have kc0 := fun o => hb.cell (p := ⟨w.heap.size, o, none⟩) (by show w.heap.size < _; first | omega | (simp <;> omega))
    have kc1 := fun o => hb.cell (p := ⟨w.heap.size + 1, o, none⟩) (by show w.heap.size + 1 < _; first | omega | (simp <;> omega))
    have kc2 := fun o => hb.cell (p := ⟨w.heap.size + 1 + 1, o, none⟩) (by show w.heap.size + 1 + 1 < _; first | omega | (simp <;> omega))
    have kc3 := fun o => hb.cell (p := ⟨w3.heap.size, o, none⟩) (by show w3.heap.size < _; first | omega | (simp <;> omega))
    have kc4 := fun o => hb.cell (p := ⟨w4.heap.size, o, none⟩) (by show w4.heap.size < _; first | omega | (simp <;> omega))
    have kc5 := fun o => hb.cell (p := ⟨w5.heap.size, o, none⟩) (by show w5.heap.size < _; first | omega | (simp <;> omega))
    have kf0 := fun o => hb.frozen (p := ⟨w.heap.size + 1 + 1, o, none⟩) (by show w.heap.size + 1 + 1 < _; first | omega | (simp <;> omega))
    have hz := hb.size
    (try simp at hz)
    have kl0 : w.heap.size < w6.heap.size := by omega
    have kn0 : ¬ w.heap.size = w6.heap.size := by omega
    have km0 : ¬ w6.heap.size = w.heap.size := by omega
    have kl1 : w.heap.size + 1 < w6.heap.size := by omega
    have kn1 : ¬ w.heap.size + 1 = w6.heap.size := by omega
    have km1 : ¬ w6.heap.size = w.heap.size + 1 := by omega
    have kl2 : w.heap.size + 1 + 1 < w6.heap.size := by omega
    have kn2 : ¬ w.heap.size + 1 + 1 = w6.heap.size := by omega
    have km2 : ¬ w6.heap.size = w.heap.size + 1 + 1 := by omega
    have kl3 : w3.heap.size < w6.heap.size := by omega
    have kn3 : ¬ w3.heap.size = w6.heap.size := by omega
    have km3 : ¬ w6.heap.size = w3.heap.size := by omega
    have kl4 : w4.heap.size < w6.heap.size := by omega
    have kn4 : ¬ w4.heap.size = w6.heap.size := by omega
    have km4 : ¬ w6.heap.size = w4.heap.size := by omega
    have kl5 : w5.heap.size < w6.heap.size := by omega
    have kn5 : ¬ w5.heap.size = w6.heap.size := by omega
    have km5 : ¬ w6.heap.size = w5.heap.size := by omega
    have HB := Lib.hid (show Below w.heap.size w w6 from by exact HB.out.trans ((show Below _ _ _ from ((Below.refl _ _).alloc (by omega) _)).trans (hb.mono (by first | omega | (simp <;> omega)))))
    have HR := Lib.hid ((show Room _ (w.heap.size + 1 + 1) 4 from (HR.out.alloc (by omega) _)).below hb (by first | omega | (simp <;> omega)))
    clear ho hb
    go_wp2_with fail
    refine (l5Four_any _ _ _ _ _ _).mono ?_
    rintro e w7 ho
    rw [← HG.out] at ho
    obtain ⟨rfl, hb⟩ := ho.fn
    have kc0 := fun o => hb.cell (p := ⟨w.heap.size + 1 + 1, o, none⟩) (by show w.heap.size + 1 + 1 < _; first | omega | (simp <;> omega))
    have kf0 := fun o => hb.frozen (p := ⟨w.heap.size + 1 + 1, o, none⟩) (by show w.heap.size + 1 + 1 < _; first | omega | (simp <;> omega))
    have hz := hb.size
    (try simp at hz)
    have kl0 : w.heap.size + 1 + 1 < w7.heap.size := by omega
    have kn0 : ¬ w.heap.size + 1 + 1 = w7.heap.size := by omega
    have km0 : ¬ w7.heap.size = w.heap.size + 1 + 1 := by omega
    have HB := Lib.hid (show Below w.heap.size w w7 from by exact HB.out.trans ((show Below _ _ _ from ((Below.refl _ _).alloc (by omega) _)).trans (hb.mono (by first | omega | (simp <;> omega)))))
    have HR := Lib.hid ((show Room _ (w.heap.size + 1 + 1) 4 from (HR.out.alloc (by omega) _)).below hb (by first | omega | (simp <;> omega)))
    clear ho hb
    go_wp2
    refine bodyPost_ret (v := .tuple #[.agg #[.int .i64 ((mTm m n)).1.a.re, .int .i64 ((mTm m n)).1.a.im, .int .i64 ((mTm m n)).1.a.den, .int .i64 ((mTm m n)).1.b.re, .int .i64 ((mTm m n)).1.b.im, .int .i64 ((mTm m n)).1.b.den, .int .i64 ((mTm m n)).1.c.re, .int .i64 ((mTm m n)).1.c.im, .int .i64 ((mTm m n)).1.c.den, .int .i64 ((mTm m n)).1.d.re, .int .i64 ((mTm m n)).1.d.im, .int .i64 ((mTm m n)).1.d.den], .bool ((mTm m n)).2]) ?_ rfl (M4Out.self ?_)
    · exact Eq.trans (results_cell_mid2 Tryd.results107 _ _ (w.heap.size + 1 + 1) [.int .i64 ((mTm m n)).1.a.re, .int .i64 ((mTm m n)).1.a.im, .int .i64 ((mTm m n)).1.a.den, .int .i64 ((mTm m n)).1.b.re, .int .i64 ((mTm m n)).1.b.im, .int .i64 ((mTm m n)).1.b.den, .int .i64 ((mTm m n)).1.c.re, .int .i64 ((mTm m n)).1.c.im, .int .i64 ((mTm m n)).1.c.den, .int .i64 ((mTm m n)).1.d.re, .int .i64 ((mTm m n)).1.d.im, .int .i64 ((mTm m n)).1.d.den] _ (by rfl) (by ((repeat' first | (with_reducible refine World.rangeAt_setCells_same _ (w.heap.size + 1 + 1) 0 [.int .i64 ((mTm m n)).1.a.re, .int .i64 ((mTm m n)).1.a.im, .int .i64 ((mTm m n)).1.a.den, .int .i64 ((mTm m n)).1.b.re, .int .i64 ((mTm m n)).1.b.im, .int .i64 ((mTm m n)).1.b.den, .int .i64 ((mTm m n)).1.c.re, .int .i64 ((mTm m n)).1.c.im, .int .i64 ((mTm m n)).1.c.den, .int .i64 ((mTm m n)).1.d.re, .int .i64 ((mTm m n)).1.d.im, .int .i64 ((mTm m n)).1.d.den] ?_) | (with_reducible refine World.rangeAt_alloc ?_ _) | (with_reducible refine (World.rangeAt_drew _ _ _ _).2 ?_)); first | exact HR.out.there | (have hh := fun W h => World.rangeAt_setCells_same W (w.heap.size + 1 + 1) 0 [.int .i64 ((mTm m n)).1.a.re, .int .i64 ((mTm m n)).1.a.im, .int .i64 ((mTm m n)).1.a.den, .int .i64 ((mTm m n)).1.b.re, .int .i64 ((mTm m n)).1.b.im, .int .i64 ((mTm m n)).1.b.den, .int .i64 ((mTm m n)).1.c.re, .int .i64 ((mTm m n)).1.c.im, .int .i64 ((mTm m n)).1.c.den, .int .i64 ((mTm m n)).1.d.re, .int .i64 ((mTm m n)).1.d.im, .int .i64 ((mTm m n)).1.d.den] h; simp only [World.setCells, Nat.zero_add, Nat.reduceAdd] at hh; exact hh _ HR.out.there))) Tryd.underlying41 rfl (by kernel_rfl)) rfl
    · (repeat' first | (with_reducible exact HB.out) | with_reducible refine setCells_below _ _ _ ?_ (by first | omega | (simp <;> omega)) | with_reducible refine Below.setCell ?_ (by show _ ≤ _; first | omega | (simp <;> omega) | simp) _ | with_reducible refine Below.alloc ?_ (by first | omega | (simp <;> omega)) _ | with_reducible apply Below.drew)
  · have HG : Hid ((mTm m n) = g4 (fIn m.a n.a m.b n.c).1 (fIn m.a n.b m.b n.d).1 (fIn m.c n.a m.d n.c).1 (fIn m.c n.b m.d n.d).1 true) := by show _ = _; simp [mTm, h1, h2, q1, q2, q3, q4]
    go_enter Tryd.func107, Tryd.ntmps107
    go_wp2_with fail
    refine (smatvalid_any m _).mono ?_
    rintro e w1 ho
    obtain ⟨rfl, hb⟩ := (id ho)
    have kc0 := fun o => hb.cell (p := ⟨w.heap.size, o, none⟩) (by show w.heap.size < _; first | omega | (simp <;> omega))
    have kc1 := fun o => hb.cell (p := ⟨w.heap.size + 1, o, none⟩) (by show w.heap.size + 1 < _; first | omega | (simp <;> omega))
    have kc2 := fun o => hb.cell (p := ⟨w.heap.size + 1 + 1, o, none⟩) (by show w.heap.size + 1 + 1 < _; first | omega | (simp <;> omega))
    have kf0 := fun o => hb.frozen (p := ⟨w.heap.size + 1 + 1, o, none⟩) (by show w.heap.size + 1 + 1 < _; first | omega | (simp <;> omega))
    have hz := hb.size
    (try simp at hz)
    have kl0 : w.heap.size < w1.heap.size := by omega
    have kn0 : ¬ w.heap.size = w1.heap.size := by omega
    have km0 : ¬ w1.heap.size = w.heap.size := by omega
    have kl1 : w.heap.size + 1 < w1.heap.size := by omega
    have kn1 : ¬ w.heap.size + 1 = w1.heap.size := by omega
    have km1 : ¬ w1.heap.size = w.heap.size + 1 := by omega
    have kl2 : w.heap.size + 1 + 1 < w1.heap.size := by omega
    have kn2 : ¬ w.heap.size + 1 + 1 = w1.heap.size := by omega
    have km2 : ¬ w1.heap.size = w.heap.size + 1 + 1 := by omega
    have HB := Lib.hid (show Below w.heap.size w w1 from by (repeat' first | exact Below.refl _ _ | apply bl_alloc | apply bl_drewN | apply bl_drew | refine bl_trans ?_ (by assumption) | refine bl_set ?_ (by first | omega | (simp <;> omega)) _))
    have HR := Lib.hid ((show Room _ (w.heap.size + 1 + 1) 4 from (Room.new' (by simp) rfl)).below hb (by first | omega | (simp <;> omega)))
    clear ho hb
    go_wp2_with fail
    refine (smatvalid_any n _).mono ?_
    rintro e w2 ho
    obtain ⟨rfl, hb⟩ := (id ho)
    have kc0 := fun o => hb.cell (p := ⟨w.heap.size, o, none⟩) (by show w.heap.size < _; first | omega | (simp <;> omega))
    have kc1 := fun o => hb.cell (p := ⟨w.heap.size + 1, o, none⟩) (by show w.heap.size + 1 < _; first | omega | (simp <;> omega))
    have kc2 := fun o => hb.cell (p := ⟨w.heap.size + 1 + 1, o, none⟩) (by show w.heap.size + 1 + 1 < _; first | omega | (simp <;> omega))
    have kf0 := fun o => hb.frozen (p := ⟨w.heap.size + 1 + 1, o, none⟩) (by show w.heap.size + 1 + 1 < _; first | omega | (simp <;> omega))
    have hz := hb.size
    (try simp at hz)
    have kl0 : w.heap.size < w2.heap.size := by omega
    have kn0 : ¬ w.heap.size = w2.heap.size := by omega
    have km0 : ¬ w2.heap.size = w.heap.size := by omega
    have kl1 : w.heap.size + 1 < w2.heap.size := by omega
    have kn1 : ¬ w.heap.size + 1 = w2.heap.size := by omega
    have km1 : ¬ w2.heap.size = w.heap.size + 1 := by omega
    have kl2 : w.heap.size + 1 + 1 < w2.heap.size := by omega
    have kn2 : ¬ w.heap.size + 1 + 1 = w2.heap.size := by omega
    have km2 : ¬ w2.heap.size = w.heap.size + 1 + 1 := by omega
    have HB := Lib.hid (show Below w.heap.size w w2 from by exact HB.out.trans ((show Below _ _ _ from (Below.refl _ _)).trans (hb.mono (by first | omega | (simp <;> omega)))))
    have HR := Lib.hid ((show Room _ (w.heap.size + 1 + 1) 4 from HR.out).below hb (by first | omega | (simp <;> omega)))
    clear ho hb
    go_wp2_with fail
    refine (l3in_any m.a n.a m.b n.c _).mono ?_
    rintro e w3 ho
    obtain ⟨rfl, hb⟩ := ho.fn
    have kc0 := fun o => hb.cell (p := ⟨w.heap.size, o, none⟩) (by show w.heap.size < _; first | omega | (simp <;> omega))
    have kc1 := fun o => hb.cell (p := ⟨w.heap.size + 1, o, none⟩) (by show w.heap.size + 1 < _; first | omega | (simp <;> omega))
    have kc2 := fun o => hb.cell (p := ⟨w.heap.size + 1 + 1, o, none⟩) (by show w.heap.size + 1 + 1 < _; first | omega | (simp <;> omega))
    have kf0 := fun o => hb.frozen (p := ⟨w.heap.size + 1 + 1, o, none⟩) (by show w.heap.size + 1 + 1 < _; first | omega | (simp <;> omega))
    have hz := hb.size
    (try simp at hz)
    have kl0 : w.heap.size < w3.heap.size := by omega
    have kn0 : ¬ w.heap.size = w3.heap.size := by omega
    have km0 : ¬ w3.heap.size = w.heap.size := by omega
    have kl1 : w.heap.size + 1 < w3.heap.size := by omega
    have kn1 : ¬ w.heap.size + 1 = w3.heap.size := by omega
    have km1 : ¬ w3.heap.size = w.heap.size + 1 := by omega
    have kl2 : w.heap.size + 1 + 1 < w3.heap.size := by omega
    have kn2 : ¬ w.heap.size + 1 + 1 = w3.heap.size := by omega
    have km2 : ¬ w3.heap.size = w.heap.size + 1 + 1 := by omega
    have HB := Lib.hid (show Below w.heap.size w w3 from by exact HB.out.trans ((show Below _ _ _ from (Below.refl _ _)).trans (hb.mono (by first | omega | (simp <;> omega)))))
    have HR := Lib.hid ((show Room _ (w.heap.size + 1 + 1) 4 from HR.out).below hb (by first | omega | (simp <;> omega)))
    clear ho hb
    go_wp2_with fail
    refine (l3in_any m.a n.b m.b n.d _).mono ?_
    rintro e w4 ho
    obtain ⟨rfl, hb⟩ := ho.fn
    have kc0 := fun o => hb.cell (p := ⟨w.heap.size, o, none⟩) (by show w.heap.size < _; first | omega | (simp <;> omega))
    have kc1 := fun o => hb.cell (p := ⟨w.heap.size + 1, o, none⟩) (by show w.heap.size + 1 < _; first | omega | (simp <;> omega))
    have kc2 := fun o => hb.cell (p := ⟨w.heap.size + 1 + 1, o, none⟩) (by show w.heap.size + 1 + 1 < _; first | omega | (simp <;> omega))
    have kc3 := fun o => hb.cell (p := ⟨w3.heap.size, o, none⟩) (by show w3.heap.size < _; first | omega | (simp <;> omega))
    have kf0 := fun o => hb.frozen (p := ⟨w.heap.size + 1 + 1, o, none⟩) (by show w.heap.size + 1 + 1 < _; first | omega | (simp <;> omega))
    have hz := hb.size
    (try simp at hz)
    have kl0 : w.heap.size < w4.heap.size := by omega
    have kn0 : ¬ w.heap.size = w4.heap.size := by omega
    have km0 : ¬ w4.heap.size = w.heap.size := by omega
    have kl1 : w.heap.size + 1 < w4.heap.size := by omega
    have kn1 : ¬ w.heap.size + 1 = w4.heap.size := by omega
    have km1 : ¬ w4.heap.size = w.heap.size + 1 := by omega
    have kl2 : w.heap.size + 1 + 1 < w4.heap.size := by omega
    have kn2 : ¬ w.heap.size + 1 + 1 = w4.heap.size := by omega
    have km2 : ¬ w4.heap.size = w.heap.size + 1 + 1 := by omega
    have kl3 : w3.heap.size < w4.heap.size := by omega
    have kn3 : ¬ w3.heap.size = w4.heap.size := by omega
    have km3 : ¬ w4.heap.size = w3.heap.size := by omega
    have HB := Lib.hid (show Below w.heap.size w w4 from by exact HB.out.trans ((show Below _ _ _ from ((Below.refl _ _).alloc (by omega) _)).trans (hb.mono (by first | omega | (simp <;> omega)))))
    have HR := Lib.hid ((show Room _ (w.heap.size + 1 + 1) 4 from (HR.out.alloc (by omega) _)).below hb (by first | omega | (simp <;> omega)))
    clear ho hb
    go_wp2_with fail
    refine (l3in_any m.c n.a m.d n.c _).mono ?_
    rintro e w5 ho
    obtain ⟨rfl, hb⟩ := ho.fn
    have kc0 := fun o => hb.cell (p := ⟨w.heap.size, o, none⟩) (by show w.heap.size < _; first | omega | (simp <;> omega))
    have kc1 := fun o => hb.cell (p := ⟨w.heap.size + 1, o, none⟩) (by show w.heap.size + 1 < _; first | omega | (simp <;> omega))
    have kc2 := fun o => hb.cell (p := ⟨w.heap.size + 1 + 1, o, none⟩) (by show w.heap.size + 1 + 1 < _; first | omega | (simp <;> omega))
    have kc3 := fun o => hb.cell (p := ⟨w3.heap.size, o, none⟩) (by show w3.heap.size < _; first | omega | (simp <;> omega))
    have kc4 := fun o => hb.cell (p := ⟨w4.heap.size, o, none⟩) (by show w4.heap.size < _; first | omega | (simp <;> omega))
    have kf0 := fun o => hb.frozen (p := ⟨w.heap.size + 1 + 1, o, none⟩) (by show w.heap.size + 1 + 1 < _; first | omega | (simp <;> omega))
    have hz := hb.size
    (try simp at hz)
    have kl0 : w.heap.size < w5.heap.size := by omega
    have kn0 : ¬ w.heap.size = w5.heap.size := by omega
    have km0 : ¬ w5.heap.size = w.heap.size := by omega
    have kl1 : w.heap.size + 1 < w5.heap.size := by omega
    have kn1 : ¬ w.heap.size + 1 = w5.heap.size := by omega
    have km1 : ¬ w5.heap.size = w.heap.size + 1 := by omega
    have kl2 : w.heap.size + 1 + 1 < w5.heap.size := by omega
    have kn2 : ¬ w.heap.size + 1 + 1 = w5.heap.size := by omega
    have km2 : ¬ w5.heap.size = w.heap.size + 1 + 1 := by omega
    have kl3 : w3.heap.size < w5.heap.size := by omega
    have kn3 : ¬ w3.heap.size = w5.heap.size := by omega
    have km3 : ¬ w5.heap.size = w3.heap.size := by omega
    have kl4 : w4.heap.size < w5.heap.size := by omega
    have kn4 : ¬ w4.heap.size = w5.heap.size := by omega
    have km4 : ¬ w5.heap.size = w4.heap.size := by omega
    have HB := Lib.hid (show Below w.heap.size w w5 from by exact HB.out.trans ((show Below _ _ _ from ((Below.refl _ _).alloc (by omega) _)).trans (hb.mono (by first | omega | (simp <;> omega)))))
    have HR := Lib.hid ((show Room _ (w.heap.size + 1 + 1) 4 from (HR.out.alloc (by omega) _)).below hb (by first | omega | (simp <;> omega)))
    clear ho hb
    go_wp2_with fail
    refine (l3in_any m.c n.b m.d n.d _).mono ?_
    rintro e w6 ho
    obtain ⟨rfl, hb⟩ := ho.fn
    have kc0 := fun o => hb.cell (p := ⟨w.heap.size, o, none⟩) (by show w.heap.size < _; first | omega | (simp <;> omega))
    have kc1 := fun o => hb.cell (p := ⟨w.heap.size + 1, o, none⟩) (by show w.heap.size + 1 < _; first | omega | (simp <;> omega))
    have kc2 := fun o => hb.cell (p := ⟨w.heap.size + 1 + 1, o, none⟩) (by show w.heap.size + 1 + 1 < _; first | omega | (simp <;> omega))
    have kc3 := fun o => hb.cell (p := ⟨w3.heap.size, o, none⟩) (by show w3.heap.size < _; first | omega | (simp <;> omega))
    have kc4 := fun o => hb.cell (p := ⟨w4.heap.size, o, none⟩) (by show w4.heap.size < _; first | omega | (simp <;> omega))
    have kc5 := fun o => hb.cell (p := ⟨w5.heap.size, o, none⟩) (by show w5.heap.size < _; first | omega | (simp <;> omega))
    have kf0 := fun o => hb.frozen (p := ⟨w.heap.size + 1 + 1, o, none⟩) (by show w.heap.size + 1 + 1 < _; first | omega | (simp <;> omega))
    have hz := hb.size
    (try simp at hz)
    have kl0 : w.heap.size < w6.heap.size := by omega
    have kn0 : ¬ w.heap.size = w6.heap.size := by omega
    have km0 : ¬ w6.heap.size = w.heap.size := by omega
    have kl1 : w.heap.size + 1 < w6.heap.size := by omega
    have kn1 : ¬ w.heap.size + 1 = w6.heap.size := by omega
    have km1 : ¬ w6.heap.size = w.heap.size + 1 := by omega
    have kl2 : w.heap.size + 1 + 1 < w6.heap.size := by omega
    have kn2 : ¬ w.heap.size + 1 + 1 = w6.heap.size := by omega
    have km2 : ¬ w6.heap.size = w.heap.size + 1 + 1 := by omega
    have kl3 : w3.heap.size < w6.heap.size := by omega
    have kn3 : ¬ w3.heap.size = w6.heap.size := by omega
    have km3 : ¬ w6.heap.size = w3.heap.size := by omega
    have kl4 : w4.heap.size < w6.heap.size := by omega
    have kn4 : ¬ w4.heap.size = w6.heap.size := by omega
    have km4 : ¬ w6.heap.size = w4.heap.size := by omega
    have kl5 : w5.heap.size < w6.heap.size := by omega
    have kn5 : ¬ w5.heap.size = w6.heap.size := by omega
    have km5 : ¬ w6.heap.size = w5.heap.size := by omega
    have HB := Lib.hid (show Below w.heap.size w w6 from by exact HB.out.trans ((show Below _ _ _ from ((Below.refl _ _).alloc (by omega) _)).trans (hb.mono (by first | omega | (simp <;> omega)))))
    have HR := Lib.hid ((show Room _ (w.heap.size + 1 + 1) 4 from (HR.out.alloc (by omega) _)).below hb (by first | omega | (simp <;> omega)))
    clear ho hb
    go_wp2_with fail
    refine (l5Four_any _ _ _ _ _ _).mono ?_
    rintro e w7 ho
    rw [← HG.out] at ho
    obtain ⟨rfl, hb⟩ := ho.fn
    have kc0 := fun o => hb.cell (p := ⟨w.heap.size + 1 + 1, o, none⟩) (by show w.heap.size + 1 + 1 < _; first | omega | (simp <;> omega))
    have kf0 := fun o => hb.frozen (p := ⟨w.heap.size + 1 + 1, o, none⟩) (by show w.heap.size + 1 + 1 < _; first | omega | (simp <;> omega))
    have hz := hb.size
    (try simp at hz)
    have kl0 : w.heap.size + 1 + 1 < w7.heap.size := by omega
    have kn0 : ¬ w.heap.size + 1 + 1 = w7.heap.size := by omega
    have km0 : ¬ w7.heap.size = w.heap.size + 1 + 1 := by omega
    have HB := Lib.hid (show Below w.heap.size w w7 from by exact HB.out.trans ((show Below _ _ _ from ((Below.refl _ _).alloc (by omega) _)).trans (hb.mono (by first | omega | (simp <;> omega)))))
    have HR := Lib.hid ((show Room _ (w.heap.size + 1 + 1) 4 from (HR.out.alloc (by omega) _)).below hb (by first | omega | (simp <;> omega)))
    clear ho hb
    go_wp2
    refine bodyPost_ret (v := .tuple #[.agg #[.int .i64 ((mTm m n)).1.a.re, .int .i64 ((mTm m n)).1.a.im, .int .i64 ((mTm m n)).1.a.den, .int .i64 ((mTm m n)).1.b.re, .int .i64 ((mTm m n)).1.b.im, .int .i64 ((mTm m n)).1.b.den, .int .i64 ((mTm m n)).1.c.re, .int .i64 ((mTm m n)).1.c.im, .int .i64 ((mTm m n)).1.c.den, .int .i64 ((mTm m n)).1.d.re, .int .i64 ((mTm m n)).1.d.im, .int .i64 ((mTm m n)).1.d.den], .bool ((mTm m n)).2]) ?_ rfl (M4Out.self ?_)
    · exact Eq.trans (results_cell_mid2 Tryd.results107 _ _ (w.heap.size + 1 + 1) [.int .i64 ((mTm m n)).1.a.re, .int .i64 ((mTm m n)).1.a.im, .int .i64 ((mTm m n)).1.a.den, .int .i64 ((mTm m n)).1.b.re, .int .i64 ((mTm m n)).1.b.im, .int .i64 ((mTm m n)).1.b.den, .int .i64 ((mTm m n)).1.c.re, .int .i64 ((mTm m n)).1.c.im, .int .i64 ((mTm m n)).1.c.den, .int .i64 ((mTm m n)).1.d.re, .int .i64 ((mTm m n)).1.d.im, .int .i64 ((mTm m n)).1.d.den] _ (by rfl) (by ((repeat' first | (with_reducible refine World.rangeAt_setCells_same _ (w.heap.size + 1 + 1) 0 [.int .i64 ((mTm m n)).1.a.re, .int .i64 ((mTm m n)).1.a.im, .int .i64 ((mTm m n)).1.a.den, .int .i64 ((mTm m n)).1.b.re, .int .i64 ((mTm m n)).1.b.im, .int .i64 ((mTm m n)).1.b.den, .int .i64 ((mTm m n)).1.c.re, .int .i64 ((mTm m n)).1.c.im, .int .i64 ((mTm m n)).1.c.den, .int .i64 ((mTm m n)).1.d.re, .int .i64 ((mTm m n)).1.d.im, .int .i64 ((mTm m n)).1.d.den] ?_) | (with_reducible refine World.rangeAt_alloc ?_ _) | (with_reducible refine (World.rangeAt_drew _ _ _ _).2 ?_)); first | exact HR.out.there | (have hh := fun W h => World.rangeAt_setCells_same W (w.heap.size + 1 + 1) 0 [.int .i64 ((mTm m n)).1.a.re, .int .i64 ((mTm m n)).1.a.im, .int .i64 ((mTm m n)).1.a.den, .int .i64 ((mTm m n)).1.b.re, .int .i64 ((mTm m n)).1.b.im, .int .i64 ((mTm m n)).1.b.den, .int .i64 ((mTm m n)).1.c.re, .int .i64 ((mTm m n)).1.c.im, .int .i64 ((mTm m n)).1.c.den, .int .i64 ((mTm m n)).1.d.re, .int .i64 ((mTm m n)).1.d.im, .int .i64 ((mTm m n)).1.d.den] h; simp only [World.setCells, Nat.zero_add, Nat.reduceAdd] at hh; exact hh _ HR.out.there))) Tryd.underlying41 rfl (by kernel_rfl)) rfl
    · (repeat' first | (with_reducible exact HB.out) | with_reducible refine setCells_below _ _ _ ?_ (by first | omega | (simp <;> omega)) | with_reducible refine Below.setCell ?_ (by show _ ≤ _; first | omega | (simp <;> omega) | simp) _ | with_reducible refine Below.alloc ?_ (by first | omega | (simp <;> omega)) _ | with_reducible apply Below.drew)
end Go.Proofs.YtmcokdiopcpifaaDoor
