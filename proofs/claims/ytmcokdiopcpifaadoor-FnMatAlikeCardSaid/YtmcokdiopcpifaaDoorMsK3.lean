/- Contracts of the reference: multiples of matrices. -/
import Derived.Test.YtmcokdiopcpifaaDoorMsV
import Derived.Test.YtmcokdiopcpifaaDoorMsG7
import Derived.Test.YtmcokdiopcpifaaDoorMsN
set_option maxRecDepth 100000
namespace Go.Proofs.YtmcokdiopcpifaaDoor
open Go.RowKit Pol
theorem M4Out.self' {g : M4 × Bool} {w w' : World} (hb : Below w.heap.size w w') : M4Out g w (.returned (.tuple #[.agg #[.int .i64 g.1.a.re, .int .i64 g.1.a.im, .int .i64 g.1.a.den, .int .i64 g.1.b.re, .int .i64 g.1.b.im, .int .i64 g.1.b.den, .int .i64 g.1.c.re, .int .i64 g.1.c.im, .int .i64 g.1.c.den, .int .i64 g.1.d.re, .int .i64 g.1.d.im, .int .i64 g.1.d.den], .bool g.2])) w' := ⟨rfl, hb⟩
def mScaS (a : M4) (c : Fr) : M4 × Bool := if all4 vld a = true then g4 (fTimes a.a c).1 (fTimes a.b c).1 (fTimes a.c c).1 (fTimes a.d c).1 ((fTimes a.a c).2 && (fTimes a.b c).2 && (fTimes a.c c).2 && (fTimes a.d c).2) else (m4z, false)
theorem mScaS_eq (a : M4) (c : Fr) : mScaS a c = mSca a c := by
  unfold mScaS mSca
  cases h : all4 vld a
  · simp only [Bool.false_eq_true, if_false, Bool.false_and, Bool.not_false, Bool.or_true]; exact m4l_e.symm
  · simp only [if_true, Bool.true_and]
    have key : ∀ k, k < 4 → (sTimF a c k).2 = false → m4l (false || !vld c) (sTimF a c) = (m4z, false) := fun k hk hb => m4l_bad hk hb
    cases h1 : (fTimes a.a c).2
    · rw [key 0 (by omega) h1]; simp [g4]
    cases h2 : (fTimes a.b c).2
    · rw [key 1 (by omega) h2]; simp [g4]
    cases h3 : (fTimes a.c c).2
    · rw [key 2 (by omega) h3]; simp [g4]
    cases h4 : (fTimes a.d c).2
    · rw [key 3 (by omega) h4]; simp [g4]
    have hv := (fTimes_vld h1).2.1
    rw [hv]
    show g4 _ _ _ _ true = m4l false _
    rw [m4l_good (fun k hk => by
      have : k = 0 ∨ k = 1 ∨ k = 2 ∨ k = 3 := by omega
      rcases this with rfl | rfl | rfl | rfl
      · exact h1
      · exact h2
      · exact h3
      · exact h4)]
    rfl
set_option maxRecDepth 100000 in
set_option maxHeartbeats 40000000 in
theorem ssca0_any (a : M4) (c : Fr) (w : World) :
    Calls Tryd.prog 58 #[.agg #[.int .i64 a.a.re, .int .i64 a.a.im, .int .i64 a.a.den, .int .i64 a.b.re, .int .i64 a.b.im, .int .i64 a.b.den, .int .i64 a.c.re, .int .i64 a.c.im, .int .i64 a.c.den, .int .i64 a.d.re, .int .i64 a.d.im, .int .i64 a.d.den], .agg #[.int .i64 c.re, .int .i64 c.im, .int .i64 c.den]] w (M4Out (mScaS a c) w) := by
  cases h0 : all4 vld a
  · have HG : Hid (mScaS a c = (m4z, false)) := by show _ = _; unfold mScaS; rw [if_neg (by rw [h0]; simp)]
    go_enter Tryd.func58, Tryd.ntmps58
    go_wp2_with fail
    refine (smatvalid_any a _).mono ?_
    rintro e w1 ho
    obtain ⟨rfl, hb⟩ := (id ho)
    have kc0 := fun o => hb.cell (p := ⟨w.heap.size, o, none⟩) (by show w.heap.size < _; first | omega | (simp <;> omega))
    have kc1 := fun o => hb.cell (p := ⟨w.heap.size + 1, o, none⟩) (by show w.heap.size + 1 < _; first | omega | (simp <;> omega))
    have kc2 := fun o => hb.cell (p := ⟨w.heap.size + 1 + 1, o, none⟩) (by show w.heap.size + 1 + 1 < _; first | omega | (simp <;> omega))
    have kf0 := fun o => hb.frozen (p := ⟨w.heap.size + 1 + 1, o, none⟩) (by show w.heap.size + 1 + 1 < _; first | omega | (simp <;> omega))
    have hz := hb.size
    (try simp at hz)
    have kl0 : w.heap.size < w1.heap.size := by omega
    have kn0 : ¬ w.heap.size = w1.heap.size := by omega
    have km0 : ¬ w1.heap.size = w.heap.size := by omega
    have kl1 : w.heap.size + 1 < w1.heap.size := by omega
    have kn1 : ¬ w.heap.size + 1 = w1.heap.size := by omega
    have km1 : ¬ w1.heap.size = w.heap.size + 1 := by omega
    have kl2 : w.heap.size + 1 + 1 < w1.heap.size := by omega
    have kn2 : ¬ w.heap.size + 1 + 1 = w1.heap.size := by omega
    have km2 : ¬ w1.heap.size = w.heap.size + 1 + 1 := by omega
    have HB := Lib.hid (show Below w.heap.size w w1 from by (repeat' first | exact Below.refl _ _ | apply bl_alloc | apply bl_drewN | apply bl_drew | refine bl_trans ?_ (by assumption) | refine bl_set ?_ (by first | omega | (simp <;> omega)) _))
    have HR := Lib.hid ((show Room _ (w.heap.size + 1 + 1) 4 from (Room.new' (by simp) rfl)).below hb (by first | omega | (simp <;> omega)))
    clear ho hb
    go_wp2
    refine bodyPost_ret (v := .tuple #[.agg #[.int .i64 0, .int .i64 0, .int .i64 0, .int .i64 0, .int .i64 0, .int .i64 0, .int .i64 0, .int .i64 0, .int .i64 0, .int .i64 0, .int .i64 0, .int .i64 0], .bool false]) ?_ rfl (M4Out.no HG.out ?_)
    · exact Eq.trans (results_cell_mid2 Tryd.results58 _ _ (w.heap.size + 1 + 1) [.int .i64 0, .int .i64 0, .int .i64 0, .int .i64 0, .int .i64 0, .int .i64 0, .int .i64 0, .int .i64 0, .int .i64 0, .int .i64 0, .int .i64 0, .int .i64 0] _ (by rfl) (by ((repeat' first | (with_reducible refine World.rangeAt_setCells_same _ (w.heap.size + 1 + 1) 0 [.int .i64 0, .int .i64 0, .int .i64 0, .int .i64 0, .int .i64 0, .int .i64 0, .int .i64 0, .int .i64 0, .int .i64 0, .int .i64 0, .int .i64 0, .int .i64 0] ?_) | (with_reducible refine World.rangeAt_alloc ?_ _) | (with_reducible refine (World.rangeAt_drew _ _ _ _).2 ?_)); first | exact HR.out.there | (have hh := fun W h => World.rangeAt_setCells_same W (w.heap.size + 1 + 1) 0 [.int .i64 0, .int .i64 0, .int .i64 0, .int .i64 0, .int .i64 0, .int .i64 0, .int .i64 0, .int .i64 0, .int .i64 0, .int .i64 0, .int .i64 0, .int .i64 0] h; simp only [World.setCells, Nat.zero_add, Nat.reduceAdd] at hh; exact hh _ HR.out.there))) Tryd.underlying41 rfl (by kernel_rfl)) rfl
    · (repeat' first | (with_reducible exact HB.out) | with_reducible refine setCells_below _ _ _ ?_ (by first | omega | (simp <;> omega)) | with_reducible refine Below.setCell ?_ (by show _ ≤ _; first | omega | (simp <;> omega) | simp) _ | with_reducible refine Below.alloc ?_ (by first | omega | (simp <;> omega)) _ | with_reducible apply Below.drew)
  cases h1 : (fTimes a.a c).2
  · have HG : Hid (mScaS a c = g4 (fTimes a.a c).1 (fTimes a.b c).1 (fTimes a.c c).1 (fTimes a.d c).1 false) := by show _ = _; unfold mScaS; rw [if_pos h0]; simp [h1]
    go_enter Tryd.func58, Tryd.ntmps58
    go_wp2_with fail
    refine (smatvalid_any a _).mono ?_
    rintro e w1 ho
    obtain ⟨rfl, hb⟩ := (id ho)
    have kc0 := fun o => hb.cell (p := ⟨w.heap.size, o, none⟩) (by show w.heap.size < _; first | omega | (simp <;> omega))
    have kc1 := fun o => hb.cell (p := ⟨w.heap.size + 1, o, none⟩) (by show w.heap.size + 1 < _; first | omega | (simp <;> omega))
    have kc2 := fun o => hb.cell (p := ⟨w.heap.size + 1 + 1, o, none⟩) (by show w.heap.size + 1 + 1 < _; first | omega | (simp <;> omega))
    have kf0 := fun o => hb.frozen (p := ⟨w.heap.size + 1 + 1, o, none⟩) (by show w.heap.size + 1 + 1 < _; first | omega | (simp <;> omega))
    have hz := hb.size
    (try simp at hz)
    have kl0 : w.heap.size < w1.heap.size := by omega
    have kn0 : ¬ w.heap.size = w1.heap.size := by omega
    have km0 : ¬ w1.heap.size = w.heap.size := by omega
    have kl1 : w.heap.size + 1 < w1.heap.size := by omega
    have kn1 : ¬ w.heap.size + 1 = w1.heap.size := by omega
    have km1 : ¬ w1.heap.size = w.heap.size + 1 := by omega
    have kl2 : w.heap.size + 1 + 1 < w1.heap.size := by omega
    have kn2 : ¬ w.heap.size + 1 + 1 = w1.heap.size := by omega
    have km2 : ¬ w1.heap.size = w.heap.size + 1 + 1 := by omega
    have HB := Lib.hid (show Below w.heap.size w w1 from by (repeat' first | exact Below.refl _ _ | apply bl_alloc | apply bl_drewN | apply bl_drew | refine bl_trans ?_ (by assumption) | refine bl_set ?_ (by first | omega | (simp <;> omega)) _))
    have HR := Lib.hid ((show Room _ (w.heap.size + 1 + 1) 4 from (Room.new' (by simp) rfl)).below hb (by first | omega | (simp <;> omega)))
    clear ho hb
    go_wp2_with fail
    refine (sptimes_fr a.a c _).mono ?_
    rintro e w2 ho
    obtain ⟨rfl, hb⟩ := ho.fn
    have kc0 := fun o => hb.cell (p := ⟨w.heap.size, o, none⟩) (by show w.heap.size < _; first | omega | (simp <;> omega))
    have kc1 := fun o => hb.cell (p := ⟨w.heap.size + 1, o, none⟩) (by show w.heap.size + 1 < _; first | omega | (simp <;> omega))
    have kc2 := fun o => hb.cell (p := ⟨w.heap.size + 1 + 1, o, none⟩) (by show w.heap.size + 1 + 1 < _; first | omega | (simp <;> omega))
    have kf0 := fun o => hb.frozen (p := ⟨w.heap.size + 1 + 1, o, none⟩) (by show w.heap.size + 1 + 1 < _; first | omega | (simp <;> omega))
    have hz := hb.size
    (try simp at hz)
    have kl0 : w.heap.size < w2.heap.size := by omega
    have kn0 : ¬ w.heap.size = w2.heap.size := by omega
    have km0 : ¬ w2.heap.size = w.heap.size := by omega
    have kl1 : w.heap.size + 1 < w2.heap.size := by omega
    have kn1 : ¬ w.heap.size + 1 = w2.heap.size := by omega
    have km1 : ¬ w2.heap.size = w.heap.size + 1 := by omega
    have kl2 : w.heap.size + 1 + 1 < w2.heap.size := by omega
    have kn2 : ¬ w.heap.size + 1 + 1 = w2.heap.size := by omega
    have km2 : ¬ w2.heap.size = w.heap.size + 1 + 1 := by omega
    have HB := Lib.hid (show Below w.heap.size w w2 from by exact HB.out.trans ((show Below _ _ _ from (Below.refl _ _)).trans (hb.mono (by first | omega | (simp <;> omega)))))
    have HR := Lib.hid ((show Room _ (w.heap.size + 1 + 1) 4 from HR.out).below hb (by first | omega | (simp <;> omega)))
    clear ho hb
    go_wp2_with fail
    refine (sptimes_fr a.b c _).mono ?_
    rintro e w3 ho
    obtain ⟨rfl, hb⟩ := ho.fn
    have kc0 := fun o => hb.cell (p := ⟨w.heap.size, o, none⟩) (by show w.heap.size < _; first | omega | (simp <;> omega))
    have kc1 := fun o => hb.cell (p := ⟨w.heap.size + 1, o, none⟩) (by show w.heap.size + 1 < _; first | omega | (simp <;> omega))
    have kc2 := fun o => hb.cell (p := ⟨w.heap.size + 1 + 1, o, none⟩) (by show w.heap.size + 1 + 1 < _; first | omega | (simp <;> omega))
    have kc3 := fun o => hb.cell (p := ⟨w2.heap.size, o, none⟩) (by show w2.heap.size < _; first | omega | (simp <;> omega))
    have kf0 := fun o => hb.frozen (p := ⟨w.heap.size + 1 + 1, o, none⟩) (by show w.heap.size + 1 + 1 < _; first | omega | (simp <;> omega))
    have hz := hb.size
    (try simp at hz)
    have kl0 : w.heap.size < w3.heap.size := by omega
    have kn0 : ¬ w.heap.size = w3.heap.size := by omega
    have km0 : ¬ w3.heap.size = w.heap.size := by omega
    have kl1 : w.heap.size + 1 < w3.heap.size := by omega
    have kn1 : ¬ w.heap.size + 1 = w3.heap.size := by omega
    have km1 : ¬ w3.heap.size = w.heap.size + 1 := by omega
    have kl2 : w.heap.size + 1 + 1 < w3.heap.size := by omega
    have kn2 : ¬ w.heap.size + 1 + 1 = w3.heap.size := by omega
    have km2 : ¬ w3.heap.size = w.heap.size + 1 + 1 := by omega
    have kl3 : w2.heap.size < w3.heap.size := by omega
    have kn3 : ¬ w2.heap.size = w3.heap.size := by omega
    have km3 : ¬ w3.heap.size = w2.heap.size := by omega
    have HB := Lib.hid (show Below w.heap.size w w3 from by exact HB.out.trans ((show Below _ _ _ from ((Below.refl _ _).alloc (by omega) _)).trans (hb.mono (by first | omega | (simp <;> omega)))))
    have HR := Lib.hid ((show Room _ (w.heap.size + 1 + 1) 4 from (HR.out.alloc (by omega) _)).below hb (by first | omega | (simp <;> omega)))
    clear ho hb
    go_wp2_with fail
    refine (sptimes_fr a.c c _).mono ?_
    rintro e w4 ho
    obtain ⟨rfl, hb⟩ := ho.fn
    have kc0 := fun o => hb.cell (p := ⟨w.heap.size, o, none⟩) (by show w.heap.size < _; first | omega | (simp <;> omega))
    have kc1 := fun o => hb.cell (p := ⟨w.heap.size + 1, o, none⟩) (by show w.heap.size + 1 < _; first | omega | (simp <;> omega))
    have kc2 := fun o => hb.cell (p := ⟨w.heap.size + 1 + 1, o, none⟩) (by show w.heap.size + 1 + 1 < _; first | omega | (simp <;> omega))
    have kc3 := fun o => hb.cell (p := ⟨w2.heap.size, o, none⟩) (by show w2.heap.size < _; first | omega | (simp <;> omega))
    have kc4 := fun o => hb.cell (p := ⟨w3.heap.size, o, none⟩) (by show w3.heap.size < _; first | omega | (simp <;> omega))
    have kf0 := fun o => hb.frozen (p := ⟨w.heap.size + 1 + 1, o, none⟩) (by show w.heap.size + 1 + 1 < _; first | omega | (simp <;> omega))
    have hz := hb.size
    (try simp at hz)
    have kl0 : w.heap.size < w4.heap.size := by omega
    have kn0 : ¬ w.heap.size = w4.heap.size := by omega
    have km0 : ¬ w4.heap.size = w.heap.size := by omega
    have kl1 : w.heap.size + 1 < w4.heap.size := by omega
    have kn1 : ¬ w.heap.size + 1 = w4.heap.size := by omega
    have km1 : ¬ w4.heap.size = w.heap.size + 1 := by omega
    have kl2 : w.heap.size + 1 + 1 < w4.heap.size := by omega
    have kn2 : ¬ w.heap.size + 1 + 1 = w4.heap.size := by omega
    have km2 : ¬ w4.heap.size = w.heap.size + 1 + 1 := by omega
    have kl3 : w2.heap.size < w4.heap.size := by omega
    have kn3 : ¬ w2.heap.size = w4.heap.size := by omega
    have km3 : ¬ w4.heap.size = w2.heap.size := by omega
    have kl4 : w3.heap.size < w4.heap.size := by omega
    have kn4 : ¬ w3.heap.size = w4.heap.size := by omega
    have km4 : ¬ w4.heap.size = w3.heap.size := by omega
    have HB := Lib.hid (show Below w.heap.size w w4 from by exact HB.out.trans ((show Below _ _ _ from ((Below.refl _ _).alloc (by omega) _)).trans (hb.mono (by first | omega | (simp <;> omega)))))
    have HR := Lib.hid ((show Room _ (w.heap.size + 1 + 1) 4 from (HR.out.alloc (by omega) _)).below hb (by first | omega | (simp <;> omega)))
    clear ho hb
    go_wp2_with fail
    refine (sptimes_fr a.d c _).mono ?_
    rintro e w5 ho
    obtain ⟨rfl, hb⟩ := ho.fn
    have kc0 := fun o => hb.cell (p := ⟨w.heap.size, o, none⟩) (by show w.heap.size < _; first | omega | (simp <;> omega))
    have kc1 := fun o => hb.cell (p := ⟨w.heap.size + 1, o, none⟩) (by show w.heap.size + 1 < _; first | omega | (simp <;> omega))
    have kc2 := fun o => hb.cell (p := ⟨w.heap.size + 1 + 1, o, none⟩) (by show w.heap.size + 1 + 1 < _; first | omega | (simp <;> omega))
    have kc3 := fun o => hb.cell (p := ⟨w2.heap.size, o, none⟩) (by show w2.heap.size < _; first | omega | (simp <;> omega))
    have kc4 := fun o => hb.cell (p := ⟨w3.heap.size, o, none⟩) (by show w3.heap.size < _; first | omega | (simp <;> omega))
    have kc5 := fun o => hb.cell (p := ⟨w4.heap.size, o, none⟩) (by show w4.heap.size < _; first | omega | (simp <;> omega))
    have kf0 := fun o => hb.frozen (p := ⟨w.heap.size + 1 + 1, o, none⟩) (by show w.heap.size + 1 + 1 < _; first | omega | (simp <;> omega))
    have hz := hb.size
    (try simp at hz)
    have kl0 : w.heap.size < w5.heap.size := by omega
    have kn0 : ¬ w.heap.size = w5.heap.size := by omega
    have km0 : ¬ w5.heap.size = w.heap.size := by omega
    have kl1 : w.heap.size + 1 < w5.heap.size := by omega
    have kn1 : ¬ w.heap.size + 1 = w5.heap.size := by omega
    have km1 : ¬ w5.heap.size = w.heap.size + 1 := by omega
    have kl2 : w.heap.size + 1 + 1 < w5.heap.size := by omega
    have kn2 : ¬ w.heap.size + 1 + 1 = w5.heap.size := by omega
    have km2 : ¬ w5.heap.size = w.heap.size + 1 + 1 := by omega
    have kl3 : w2.heap.size < w5.heap.size := by omega
    have kn3 : ¬ w2.heap.size = w5.heap.size := by omega
    have km3 : ¬ w5.heap.size = w2.heap.size := by omega
    have kl4 : w3.heap.size < w5.heap.size := by omega
    have kn4 : ¬ w3.heap.size = w5.heap.size := by omega
    have km4 : ¬ w5.heap.size = w3.heap.size := by omega
    have kl5 : w4.heap.size < w5.heap.size := by omega
    have kn5 : ¬ w4.heap.size = w5.heap.size := by omega
    have km5 : ¬ w5.heap.size = w4.heap.size := by omega
    have HB := Lib.hid (show Below w.heap.size w w5 from by exact HB.out.trans ((show Below _ _ _ from ((Below.refl _ _).alloc (by omega) _)).trans (hb.mono (by first | omega | (simp <;> omega)))))
    have HR := Lib.hid ((show Room _ (w.heap.size + 1 + 1) 4 from (HR.out.alloc (by omega) _)).below hb (by first | omega | (simp <;> omega)))
    clear ho hb
    go_wp2_with fail
    refine (l5Four_any _ _ _ _ _ _).mono ?_
    rintro e w6 ho
    rw [← HG.out] at ho
    obtain ⟨rfl, hb⟩ := ho.fn
    have kc0 := fun o => hb.cell (p := ⟨w.heap.size + 1 + 1, o, none⟩) (by show w.heap.size + 1 + 1 < _; first | omega | (simp <;> omega))
    have kf0 := fun o => hb.frozen (p := ⟨w.heap.size + 1 + 1, o, none⟩) (by show w.heap.size + 1 + 1 < _; first | omega | (simp <;> omega))
    have hz := hb.size
    (try simp at hz)
    have kl0 : w.heap.size + 1 + 1 < w6.heap.size := by omega
    have kn0 : ¬ w.heap.size + 1 + 1 = w6.heap.size := by omega
    have km0 : ¬ w6.heap.size = w.heap.size + 1 + 1 := by omega
    have HB := Lib.hid (show Below w.heap.size w w6 from by exact HB.out.trans ((show Below _ _ _ from ((Below.refl _ _).alloc (by omega) _)).trans (hb.mono (by first | omega | (simp <;> omega)))))
    have HR := Lib.hid ((show Room _ (w.heap.size + 1 + 1) 4 from (HR.out.alloc (by omega) _)).below hb (by first | omega | (simp <;> omega)))
    clear ho hb
    go_wp2
    refine bodyPost_ret (v := .tuple #[.agg #[.int .i64 (mScaS a c).1.a.re, .int .i64 (mScaS a c).1.a.im, .int .i64 (mScaS a c).1.a.den, .int .i64 (mScaS a c).1.b.re, .int .i64 (mScaS a c).1.b.im, .int .i64 (mScaS a c).1.b.den, .int .i64 (mScaS a c).1.c.re, .int .i64 (mScaS a c).1.c.im, .int .i64 (mScaS a c).1.c.den, .int .i64 (mScaS a c).1.d.re, .int .i64 (mScaS a c).1.d.im, .int .i64 (mScaS a c).1.d.den], .bool (mScaS a c).2]) ?_ rfl (M4Out.self' ?_)
    · exact Eq.trans (results_cell_mid2 Tryd.results58 _ _ (w.heap.size + 1 + 1) [.int .i64 (mScaS a c).1.a.re, .int .i64 (mScaS a c).1.a.im, .int .i64 (mScaS a c).1.a.den, .int .i64 (mScaS a c).1.b.re, .int .i64 (mScaS a c).1.b.im, .int .i64 (mScaS a c).1.b.den, .int .i64 (mScaS a c).1.c.re, .int .i64 (mScaS a c).1.c.im, .int .i64 (mScaS a c).1.c.den, .int .i64 (mScaS a c).1.d.re, .int .i64 (mScaS a c).1.d.im, .int .i64 (mScaS a c).1.d.den] _ (by rfl) (by ((repeat' first | (with_reducible refine World.rangeAt_setCells_same _ (w.heap.size + 1 + 1) 0 [.int .i64 (mScaS a c).1.a.re, .int .i64 (mScaS a c).1.a.im, .int .i64 (mScaS a c).1.a.den, .int .i64 (mScaS a c).1.b.re, .int .i64 (mScaS a c).1.b.im, .int .i64 (mScaS a c).1.b.den, .int .i64 (mScaS a c).1.c.re, .int .i64 (mScaS a c).1.c.im, .int .i64 (mScaS a c).1.c.den, .int .i64 (mScaS a c).1.d.re, .int .i64 (mScaS a c).1.d.im, .int .i64 (mScaS a c).1.d.den] ?_) | (with_reducible refine World.rangeAt_alloc ?_ _) | (with_reducible refine (World.rangeAt_drew _ _ _ _).2 ?_)); first | exact HR.out.there | (have hh := fun W h => World.rangeAt_setCells_same W (w.heap.size + 1 + 1) 0 [.int .i64 (mScaS a c).1.a.re, .int .i64 (mScaS a c).1.a.im, .int .i64 (mScaS a c).1.a.den, .int .i64 (mScaS a c).1.b.re, .int .i64 (mScaS a c).1.b.im, .int .i64 (mScaS a c).1.b.den, .int .i64 (mScaS a c).1.c.re, .int .i64 (mScaS a c).1.c.im, .int .i64 (mScaS a c).1.c.den, .int .i64 (mScaS a c).1.d.re, .int .i64 (mScaS a c).1.d.im, .int .i64 (mScaS a c).1.d.den] h; simp only [World.setCells, Nat.zero_add, Nat.reduceAdd] at hh; exact hh _ HR.out.there))) Tryd.underlying41 rfl (by kernel_rfl)) rfl
    · (repeat' first | (with_reducible exact HB.out) | with_reducible refine setCells_below _ _ _ ?_ (by first | omega | (simp <;> omega)) | with_reducible refine Below.setCell ?_ (by show _ ≤ _; first | omega | (simp <;> omega) | simp) _ | with_reducible refine Below.alloc ?_ (by first | omega | (simp <;> omega)) _ | with_reducible apply Below.drew)
  cases h2 : (fTimes a.b c).2
  · have HG : Hid (mScaS a c = g4 (fTimes a.a c).1 (fTimes a.b c).1 (fTimes a.c c).1 (fTimes a.d c).1 false) := by show _ = _; unfold mScaS; rw [if_pos h0]; simp [h1, h2]
    go_enter Tryd.func58, Tryd.ntmps58
    go_wp2_with fail
    refine (smatvalid_any a _).mono ?_
    rintro e w1 ho
    obtain ⟨rfl, hb⟩ := (id ho)
    have kc0 := fun o => hb.cell (p := ⟨w.heap.size, o, none⟩) (by show w.heap.size < _; first | omega | (simp <;> omega))
    have kc1 := fun o => hb.cell (p := ⟨w.heap.size + 1, o, none⟩) (by show w.heap.size + 1 < _; first | omega | (simp <;> omega))
    have kc2 := fun o => hb.cell (p := ⟨w.heap.size + 1 + 1, o, none⟩) (by show w.heap.size + 1 + 1 < _; first | omega | (simp <;> omega))
    have kf0 := fun o => hb.frozen (p := ⟨w.heap.size + 1 + 1, o, none⟩) (by show w.heap.size + 1 + 1 < _; first | omega | (simp <;> omega))
    have hz := hb.size
    (try simp at hz)
    have kl0 : w.heap.size < w1.heap.size := by omega
    have kn0 : ¬ w.heap.size = w1.heap.size := by omega
    have km0 : ¬ w1.heap.size = w.heap.size := by omega
    have kl1 : w.heap.size + 1 < w1.heap.size := by omega
    have kn1 : ¬ w.heap.size + 1 = w1.heap.size := by omega
    have km1 : ¬ w1.heap.size = w.heap.size + 1 := by omega
    have kl2 : w.heap.size + 1 + 1 < w1.heap.size := by omega
    have kn2 : ¬ w.heap.size + 1 + 1 = w1.heap.size := by omega
    have km2 : ¬ w1.heap.size = w.heap.size + 1 + 1 := by omega
    have HB := Lib.hid (show Below w.heap.size w w1 from by (repeat' first | exact Below.refl _ _ | apply bl_alloc | apply bl_drewN | apply bl_drew | refine bl_trans ?_ (by assumption) | refine bl_set ?_ (by first | omega | (simp <;> omega)) _))
    have HR := Lib.hid ((show Room _ (w.heap.size + 1 + 1) 4 from (Room.new' (by simp) rfl)).below hb (by first | omega | (simp <;> omega)))
    clear ho hb
    go_wp2_with fail
    refine (sptimes_fr a.a c _).mono ?_
    rintro e w2 ho
    obtain ⟨rfl, hb⟩ := ho.fn
    have kc0 := fun o => hb.cell (p := ⟨w.heap.size, o, none⟩) (by show w.heap.size < _; first | omega | (simp <;> omega))
    have kc1 := fun o => hb.cell (p := ⟨w.heap.size + 1, o, none⟩) (by show w.heap.size + 1 < _; first | omega | (simp <;> omega))
    have kc2 := fun o => hb.cell (p := ⟨w.heap.size + 1 + 1, o, none⟩) (by show w.heap.size + 1 + 1 < _; first | omega | (simp <;> omega))
    have kf0 := fun o => hb.frozen (p := ⟨w.heap.size + 1 + 1, o, none⟩) (by show w.heap.size + 1 + 1 < _; first | omega | (simp <;> omega))
    have hz := hb.size
    (try simp at hz)
    have kl0 : w.heap.size < w2.heap.size := by omega
    have kn0 : ¬ w.heap.size = w2.heap.size := by omega
    have km0 : ¬ w2.heap.size = w.heap.size := by omega
    have kl1 : w.heap.size + 1 < w2.heap.size := by omega
    have kn1 : ¬ w.heap.size + 1 = w2.heap.size := by omega
    have km1 : ¬ w2.heap.size = w.heap.size + 1 := by omega
    have kl2 : w.heap.size + 1 + 1 < w2.heap.size := by omega
    have kn2 : ¬ w.heap.size + 1 + 1 = w2.heap.size := by omega
    have km2 : ¬ w2.heap.size = w.heap.size + 1 + 1 := by omega
    have HB := Lib.hid (show Below w.heap.size w w2 from by exact HB.out.trans ((show Below _ _ _ from (Below.refl _ _)).trans (hb.mono (by first | omega | (simp <;> omega)))))
    have HR := Lib.hid ((show Room _ (w.heap.size + 1 + 1) 4 from HR.out).below hb (by first | omega | (simp <;> omega)))
    clear ho hb
    go_wp2_with fail
    refine (sptimes_fr a.b c _).mono ?_
    rintro e w3 ho
    obtain ⟨rfl, hb⟩ := ho.fn
    have kc0 := fun o => hb.cell (p := ⟨w.heap.size, o, none⟩) (by show w.heap.size < _; first | omega | (simp <;> omega))
    have kc1 := fun o => hb.cell (p := ⟨w.heap.size + 1, o, none⟩) (by show w.heap.size + 1 < _; first | omega | (simp <;> omega))
    have kc2 := fun o => hb.cell (p := ⟨w.heap.size + 1 + 1, o, none⟩) (by show w.heap.size + 1 + 1 < _; first | omega | (simp <;> omega))
    have kc3 := fun o => hb.cell (p := ⟨w2.heap.size, o, none⟩) (by show w2.heap.size < _; first | omega | (simp <;> omega))
    have kf0 := fun o => hb.frozen (p := ⟨w.heap.size + 1 + 1, o, none⟩) (by show w.heap.size + 1 + 1 < _; first | omega | (simp <;> omega))
    have hz := hb.size
    (try simp at hz)
    have kl0 : w.heap.size < w3.heap.size := by omega
    have kn0 : ¬ w.heap.size = w3.heap.size := by omega
    have km0 : ¬ w3.heap.size = w.heap.size := by omega
    have kl1 : w.heap.size + 1 < w3.heap.size := by omega
    have kn1 : ¬ w.heap.size + 1 = w3.heap.size := by omega
    have km1 : ¬ w3.heap.size = w.heap.size + 1 := by omega
    have kl2 : w.heap.size + 1 + 1 < w3.heap.size := by omega
    have kn2 : ¬ w.heap.size + 1 + 1 = w3.heap.size := by omega
    have km2 : ¬ w3.heap.size = w.heap.size + 1 + 1 := by omega
    have kl3 : w2.heap.size < w3.heap.size := by omega
    have kn3 : ¬ w2.heap.size = w3.heap.size := by omega
    have km3 : ¬ w3.heap.size = w2.heap.size := by omega
    have HB := Lib.hid (show Below w.heap.size w w3 from by exact HB.out.trans ((show Below _ _ _ from ((Below.refl _ _).alloc (by omega) _)).trans (hb.mono (by first | omega | (simp <;> omega)))))
    have HR := Lib.hid ((show Room _ (w.heap.size + 1 + 1) 4 from (HR.out.alloc (by omega) _)).below hb (by first | omega | (simp <;> omega)))
    clear ho hb
    go_wp2_with fail
    refine (sptimes_fr a.c c _).mono ?_
    rintro e w4 ho
    obtain ⟨rfl, hb⟩ := ho.fn
    have kc0 := fun o => hb.cell (p := ⟨w.heap.size, o, none⟩) (by show w.heap.size < _; first | omega | (simp <;> omega))
    have kc1 := fun o => hb.cell (p := ⟨w.heap.size + 1, o, none⟩) (by show w.heap.size + 1 < _; first | omega | (simp <;> omega))
    have kc2 := fun o => hb.cell (p := ⟨w.heap.size + 1 + 1, o, none⟩) (by show w.heap.size + 1 + 1 < _; first | omega | (simp <;> omega))
    have kc3 := fun o => hb.cell (p := ⟨w2.heap.size, o, none⟩) (by show w2.heap.size < _; first | omega | (simp <;> omega))
    have kc4 := fun o => hb.cell (p := ⟨w3.heap.size, o, none⟩) (by show w3.heap.size < _; first | omega | (simp <;> omega))
    have kf0 := fun o => hb.frozen (p := ⟨w.heap.size + 1 + 1, o, none⟩) (by show w.heap.size + 1 + 1 < _; first | omega | (simp <;> omega))
    have hz := hb.size
    (try simp at hz)
    have kl0 : w.heap.size < w4.heap.size := by omega
    have kn0 : ¬ w.heap.size = w4.heap.size := by omega
    have km0 : ¬ w4.heap.size = w.heap.size := by omega
    have kl1 : w.heap.size + 1 < w4.heap.size := by omega
    have kn1 : ¬ w.heap.size + 1 = w4.heap.size := by omega
    have km1 : ¬ w4.heap.size = w.heap.size + 1 := by omega
    have kl2 : w.heap.size + 1 + 1 < w4.heap.size := by omega
    have kn2 : ¬ w.heap.size + 1 + 1 = w4.heap.size := by omega
    have km2 : ¬ w4.heap.size = w.heap.size + 1 + 1 := by omega
    have kl3 : w2.heap.size < w4.heap.size := by omega
    have kn3 : ¬ w2.heap.size = w4.heap.size := by omega
    have km3 : ¬ w4.heap.size = w2.heap.size := by omega
    have kl4 : w3.heap.size < w4.heap.size := by omega
    have kn4 : ¬ w3.heap.size = w4.heap.size := by omega
    have km4 : ¬ w4.heap.size = w3.heap.size := by omega
    have HB := Lib.hid (show Below w.heap.size w w4 from by exact HB.out.trans ((show Below _ _ _ from ((Below.refl _ _).alloc (by omega) _)).trans (hb.mono (by first | omega | (simp <;> omega)))))
    have HR := Lib.hid ((show Room _ (w.heap.size + 1 + 1) 4 from (HR.out.alloc (by omega) _)).below hb (by first | omega | (simp <;> omega)))
    clear ho hb
    go_wp2_with fail
    refine (sptimes_fr a.d c _).mono ?_
    rintro e w5 ho
    obtain ⟨rfl, hb⟩ := ho.fn
    have kc0 := fun o => hb.cell (p := ⟨w.heap.size, o, none⟩) (by show w.heap.size < _; first | omega | (simp <;> omega))
    have kc1 := fun o => hb.cell (p := ⟨w.heap.size + 1, o, none⟩) (by show w.heap.size + 1 < _; first | omega | (simp <;> omega))
    have kc2 := fun o => hb.cell (p := ⟨w.heap.size + 1 + 1, o, none⟩) (by show w.heap.size + 1 + 1 < _; first | omega | (simp <;> omega))
    have kc3 := fun o => hb.cell (p := ⟨w2.heap.size, o, none⟩) (by show w2.heap.size < _; first | omega | (simp <;> omega))
    have kc4 := fun o => hb.cell (p := ⟨w3.heap.size, o, none⟩) (by show w3.heap.size < _; first | omega | (simp <;> omega))
    have kc5 := fun o => hb.cell (p := ⟨w4.heap.size, o, none⟩) (by show w4.heap.size < _; first | omega | (simp <;> omega))
    have kf0 := fun o => hb.frozen (p := ⟨w.heap.size + 1 + 1, o, none⟩) (by show w.heap.size + 1 + 1 < _; first | omega | (simp <;> omega))
    have hz := hb.size
    (try simp at hz)
    have kl0 : w.heap.size < w5.heap.size := by omega
    have kn0 : ¬ w.heap.size = w5.heap.size := by omega
    have km0 : ¬ w5.heap.size = w.heap.size := by omega
    have kl1 : w.heap.size + 1 < w5.heap.size := by omega
    have kn1 : ¬ w.heap.size + 1 = w5.heap.size := by omega
    have km1 : ¬ w5.heap.size = w.heap.size + 1 := by omega
    have kl2 : w.heap.size + 1 + 1 < w5.heap.size := by omega
    have kn2 : ¬ w.heap.size + 1 + 1 = w5.heap.size := by omega
    have km2 : ¬ w5.heap.size = w.heap.size + 1 + 1 := by omega
    have kl3 : w2.heap.size < w5.heap.size := by omega
    have kn3 : ¬ w2.heap.size = w5.heap.size := by omega
    have km3 : ¬ w5.heap.size = w2.heap.size := by omega
    have kl4 : w3.heap.size < w5.heap.size := by omega
    have kn4 : ¬ w3.heap.size = w5.heap.size := by omega
    have km4 : ¬ w5.heap.size = w3.heap.size := by omega
    have kl5 : w4.heap.size < w5.heap.size := by omega
    have kn5 : ¬ w4.heap.size = w5.heap.size := by omega
    have km5 : ¬ w5.heap.size = w4.heap.size := by omega
    have HB := Lib.hid (show Below w.heap.size w w5 from by exact HB.out.trans ((show Below _ _ _ from ((Below.refl _ _).alloc (by omega) _)).trans (hb.mono (by first | omega | (simp <;> omega)))))
    have HR := Lib.hid ((show Room _ (w.heap.size + 1 + 1) 4 from (HR.out.alloc (by omega) _)).below hb (by first | omega | (simp <;> omega)))
    clear ho hb
    go_wp2_with fail
    refine (l5Four_any _ _ _ _ _ _).mono ?_
    rintro e w6 ho
    rw [← HG.out] at ho
    obtain ⟨rfl, hb⟩ := ho.fn
    have kc0 := fun o => hb.cell (p := ⟨w.heap.size + 1 + 1, o, none⟩) (by show w.heap.size + 1 + 1 < _; first | omega | (simp <;> omega))
    have kf0 := fun o => hb.frozen (p := ⟨w.heap.size + 1 + 1, o, none⟩) (by show w.heap.size + 1 + 1 < _; first | omega | (simp <;> omega))
    have hz := hb.size
    (try simp at hz)
    have kl0 : w.heap.size + 1 + 1 < w6.heap.size := by omega
    have kn0 : ¬ w.heap.size + 1 + 1 = w6.heap.size := by omega
    have km0 : ¬ w6.heap.size = w.heap.size + 1 + 1 := by omega
    have HB := Lib.hid (show Below w.heap.size w w6 from by exact HB.out.trans ((show Below _ _ _ from ((Below.refl _ _).alloc (by omega) _)).trans (hb.mono (by first | omega | (simp <;> omega)))))
    have HR := Lib.hid ((show Room _ (w.heap.size + 1 + 1) 4 from (HR.out.alloc (by omega) _)).below hb (by first | omega | (simp <;> omega)))
    clear ho hb
    go_wp2
    refine bodyPost_ret (v := .tuple #[.agg #[.int .i64 (mScaS a c).1.a.re, .int .i64 (mScaS a c).1.a.im, .int .i64 (mScaS a c).1.a.den, .int .i64 (mScaS a c).1.b.re, .int .i64 (mScaS a c).1.b.im, .int .i64 (mScaS a c).1.b.den, .int .i64 (mScaS a c).1.c.re, .int .i64 (mScaS a c).1.c.im, .int .i64 (mScaS a c).1.c.den, .int .i64 (mScaS a c).1.d.re, .int .i64 (mScaS a c).1.d.im, .int .i64 (mScaS a c).1.d.den], .bool (mScaS a c).2]) ?_ rfl (M4Out.self' ?_)
    · exact Eq.trans (results_cell_mid2 Tryd.results58 _ _ (w.heap.size + 1 + 1) [.int .i64 (mScaS a c).1.a.re, .int .i64 (mScaS a c).1.a.im, .int .i64 (mScaS a c).1.a.den, .int .i64 (mScaS a c).1.b.re, .int .i64 (mScaS a c).1.b.im, .int .i64 (mScaS a c).1.b.den, .int .i64 (mScaS a c).1.c.re, .int .i64 (mScaS a c).1.c.im, .int .i64 (mScaS a c).1.c.den, .int .i64 (mScaS a c).1.d.re, .int .i64 (mScaS a c).1.d.im, .int .i64 (mScaS a c).1.d.den] _ (by rfl) (by ((repeat' first | (with_reducible refine World.rangeAt_setCells_same _ (w.heap.size + 1 + 1) 0 [.int .i64 (mScaS a c).1.a.re, .int .i64 (mScaS a c).1.a.im, .int .i64 (mScaS a c).1.a.den, .int .i64 (mScaS a c).1.b.re, .int .i64 (mScaS a c).1.b.im, .int .i64 (mScaS a c).1.b.den, .int .i64 (mScaS a c).1.c.re, .int .i64 (mScaS a c).1.c.im, .int .i64 (mScaS a c).1.c.den, .int .i64 (mScaS a c).1.d.re, .int .i64 (mScaS a c).1.d.im, .int .i64 (mScaS a c).1.d.den] ?_) | (with_reducible refine World.rangeAt_alloc ?_ _) | (with_reducible refine (World.rangeAt_drew _ _ _ _).2 ?_)); first | exact HR.out.there | (have hh := fun W h => World.rangeAt_setCells_same W (w.heap.size + 1 + 1) 0 [.int .i64 (mScaS a c).1.a.re, .int .i64 (mScaS a c).1.a.im, .int .i64 (mScaS a c).1.a.den, .int .i64 (mScaS a c).1.b.re, .int .i64 (mScaS a c).1.b.im, .int .i64 (mScaS a c).1.b.den, .int .i64 (mScaS a c).1.c.re, .int .i64 (mScaS a c).1.c.im, .int .i64 (mScaS a c).1.c.den, .int .i64 (mScaS a c).1.d.re, .int .i64 (mScaS a c).1.d.im, .int .i64 (mScaS a c).1.d.den] h; simp only [World.setCells, Nat.zero_add, Nat.reduceAdd] at hh; exact hh _ HR.out.there))) Tryd.underlying41 rfl (by kernel_rfl)) rfl
    · (repeat' first | (with_reducible exact HB.out) | with_reducible refine setCells_below _ _ _ ?_ (by first | omega | (simp <;> omega)) | with_reducible refine Below.setCell ?_ (by show _ ≤ _; first | omega | (simp <;> omega) | simp) _ | with_reducible refine Below.alloc ?_ (by first | omega | (simp <;> omega)) _ | with_reducible apply Below.drew)
  cases h3 : (fTimes a.c c).2
  · have HG : Hid (mScaS a c = g4 (fTimes a.a c).1 (fTimes a.b c).1 (fTimes a.c c).1 (fTimes a.d c).1 false) := by show _ = _; unfold mScaS; rw [if_pos h0]; simp [h1, h2, h3]
    go_enter Tryd.func58, Tryd.ntmps58
    go_wp2_with fail
    refine (smatvalid_any a _).mono ?_
    rintro e w1 ho
    obtain ⟨rfl, hb⟩ := (id ho)
    have kc0 := fun o => hb.cell (p := ⟨w.heap.size, o, none⟩) (by show w.heap.size < _; first | omega | (simp <;> omega))
    have kc1 := fun o => hb.cell (p := ⟨w.heap.size + 1, o, none⟩) (by show w.heap.size + 1 < _; first | omega | (simp <;> omega))
    have kc2 := fun o => hb.cell (p := ⟨w.heap.size + 1 + 1, o, none⟩) (by show w.heap.size + 1 + 1 < _; first | omega | (simp <;> omega))
    have kf0 := fun o => hb.frozen (p := ⟨w.heap.size + 1 + 1, o, none⟩) (by show w.heap.size + 1 + 1 < _; first | omega | (simp <;> omega))
    have hz := hb.size
    (try simp at hz)
    have kl0 : w.heap.size < w1.heap.size := by omega
    have kn0 : ¬ w.heap.size = w1.heap.size := by omega
    have km0 : ¬ w1.heap.size = w.heap.size := by omega
    have kl1 : w.heap.size + 1 < w1.heap.size := by omega
    have kn1 : ¬ w.heap.size + 1 = w1.heap.size := by omega
    have km1 : ¬ w1.heap.size = w.heap.size + 1 := by omega
    have kl2 : w.heap.size + 1 + 1 < w1.heap.size := by omega
    have kn2 : ¬ w.heap.size + 1 + 1 = w1.heap.size := by omega
    have km2 : ¬ w1.heap.size = w.heap.size + 1 + 1 := by omega
    have HB := Lib.hid (show Below w.heap.size w w1 from by (repeat' first | exact Below.refl _ _ | apply bl_alloc | apply bl_drewN | apply bl_drew | refine bl_trans ?_ (by assumption) | refine bl_set ?_ (by first | omega | (simp <;> omega)) _))
    have HR := Lib.hid ((show Room _ (w.heap.size + 1 + 1) 4 from (Room.new' (by simp) rfl)).below hb (by first | omega | (simp <;> omega)))
    clear ho hb
    go_wp2_with fail
    refine (sptimes_fr a.a c _).mono ?_
    rintro e w2 ho
    obtain ⟨rfl, hb⟩ := ho.fn
    have kc0 := fun o => hb.cell (p := ⟨w.heap.size, o, none⟩) (by show w.heap.size < _; first | omega | (simp <;> omega))
    have kc1 := fun o => hb.cell (p := ⟨w.heap.size + 1, o, none⟩) (by show w.heap.size + 1 < _; first | omega | (simp <;> omega))
    have kc2 := fun o => hb.cell (p := ⟨w.heap.size + 1 + 1, o, none⟩) (by show w.heap.size + 1 + 1 < _; first | omega | (simp <;> omega))
    have kf0 := fun o => hb.frozen (p := ⟨w.heap.size + 1 + 1, o, none⟩) (by show w.heap.size + 1 + 1 < _; first | omega | (simp <;> omega))
    have hz := hb.size
    (try simp at hz)
    have kl0 : w.heap.size < w2.heap.size := by omega
    have kn0 : ¬ w.heap.size = w2.heap.size := by omega
    have km0 : ¬ w2.heap.size = w.heap.size := by omega
    have kl1 : w.heap.size + 1 < w2.heap.size := by omega
    have kn1 : ¬ w.heap.size + 1 = w2.heap.size := by omega
    have km1 : ¬ w2.heap.size = w.heap.size + 1 := by omega
    have kl2 : w.heap.size + 1 + 1 < w2.heap.size := by omega
    have kn2 : ¬ w.heap.size + 1 + 1 = w2.heap.size := by omega
    have km2 : ¬ w2.heap.size = w.heap.size + 1 + 1 := by omega
    have HB := Lib.hid (show Below w.heap.size w w2 from by exact HB.out.trans ((show Below _ _ _ from (Below.refl _ _)).trans (hb.mono (by first | omega | (simp <;> omega)))))
    have HR := Lib.hid ((show Room _ (w.heap.size + 1 + 1) 4 from HR.out).below hb (by first | omega | (simp <;> omega)))
    clear ho hb
    go_wp2_with fail
    refine (sptimes_fr a.b c _).mono ?_
    rintro e w3 ho
    obtain ⟨rfl, hb⟩ := ho.fn
    have kc0 := fun o => hb.cell (p := ⟨w.heap.size, o, none⟩) (by show w.heap.size < _; first | omega | (simp <;> omega))
    have kc1 := fun o => hb.cell (p := ⟨w.heap.size + 1, o, none⟩) (by show w.heap.size + 1 < _; first | omega | (simp <;> omega))
    have kc2 := fun o => hb.cell (p := ⟨w.heap.size + 1 + 1, o, none⟩) (by show w.heap.size + 1 + 1 < _; first | omega | (simp <;> omega))
    have kc3 := fun o => hb.cell (p := ⟨w2.heap.size, o, none⟩) (by show w2.heap.size < _; first | omega | (simp <;> omega))
    have kf0 := fun o => hb.frozen (p := ⟨w.heap.size + 1 + 1, o, none⟩) (by show w.heap.size + 1 + 1 < _; first | omega | (simp <;> omega))
    have hz := hb.size
    (try simp at hz)
    have kl0 : w.heap.size < w3.heap.size := by omega
    have kn0 : ¬ w.heap.size = w3.heap.size := by omega
    have km0 : ¬ w3.heap.size = w.heap.size := by omega
    have kl1 : w.heap.size + 1 < w3.heap.size := by omega
    have kn1 : ¬ w.heap.size + 1 = w3.heap.size := by omega
    have km1 : ¬ w3.heap.size = w.heap.size + 1 := by omega
    have kl2 : w.heap.size + 1 + 1 < w3.heap.size := by omega
    have kn2 : ¬ w.heap.size + 1 + 1 = w3.heap.size := by omega
    have km2 : ¬ w3.heap.size = w.heap.size + 1 + 1 := by omega
    have kl3 : w2.heap.size < w3.heap.size := by omega
    have kn3 : ¬ w2.heap.size = w3.heap.size := by omega
    have km3 : ¬ w3.heap.size = w2.heap.size := by omega
    have HB := Lib.hid (show Below w.heap.size w w3 from by exact HB.out.trans ((show Below _ _ _ from ((Below.refl _ _).alloc (by omega) _)).trans (hb.mono (by first | omega | (simp <;> omega)))))
    have HR := Lib.hid ((show Room _ (w.heap.size + 1 + 1) 4 from (HR.out.alloc (by omega) _)).below hb (by first | omega | (simp <;> omega)))
    clear ho hb
    go_wp2_with fail
    refine (sptimes_fr a.c c _).mono ?_
    rintro e w4 ho
    obtain ⟨rfl, hb⟩ := ho.fn
    have kc0 := fun o => hb.cell (p := ⟨w.heap.size, o, none⟩) (by show w.heap.size < _; first | omega | (simp <;> omega))
    have kc1 := fun o => hb.cell (p := ⟨w.heap.size + 1, o, none⟩) (by show w.heap.size + 1 < _; first | omega | (simp <;> omega))
    have kc2 := fun o => hb.cell (p := ⟨w.heap.size + 1 + 1, o, none⟩) (by show w.heap.size + 1 + 1 < _; first | omega | (simp <;> omega))
    have kc3 := fun o => hb.cell (p := ⟨w2.heap.size, o, none⟩) (by show w2.heap.size < _; first | omega | (simp <;> omega))
    have kc4 := fun o => hb.cell (p := ⟨w3.heap.size, o, none⟩) (by show w3.heap.size < _; first | omega | (simp <;> omega))
    have kf0 := fun o => hb.frozen (p := ⟨w.heap.size + 1 + 1, o, none⟩) (by show w.heap.size + 1 + 1 < _; first | omega | (simp <;> omega))
    have hz := hb.size
    (try simp at hz)
    have kl0 : w.heap.size < w4.heap.size := by omega
    have kn0 : ¬ w.heap.size = w4.heap.size := by omega
    have km0 : ¬ w4.heap.size = w.heap.size := by omega
    have kl1 : w.heap.size + 1 < w4.heap.size := by omega
    have kn1 : ¬ w.heap.size + 1 = w4.heap.size := by omega
    have km1 : ¬ w4.heap.size = w.heap.size + 1 := by omega
    have kl2 : w.heap.size + 1 + 1 < w4.heap.size := by omega
    have kn2 : ¬ w.heap.size + 1 + 1 = w4.heap.size := by omega
    have km2 : ¬ w4.heap.size = w.heap.size + 1 + 1 := by omega
    have kl3 : w2.heap.size < w4.heap.size := by omega
    have kn3 : ¬ w2.heap.size = w4.heap.size := by omega
    have km3 : ¬ w4.heap.size = w2.heap.size := by omega
    have kl4 : w3.heap.size < w4.heap.size := by omega
    have kn4 : ¬ w3.heap.size = w4.heap.size := by omega
    have km4 : ¬ w4.heap.size = w3.heap.size := by omega
    have HB := Lib.hid (show Below w.heap.size w w4 from by exact HB.out.trans ((show Below _ _ _ from ((Below.refl _ _).alloc (by omega) _)).trans (hb.mono (by first | omega | (simp <;> omega)))))
    have HR := Lib.hid ((show Room _ (w.heap.size + 1 + 1) 4 from (HR.out.alloc (by omega) _)).below hb (by first | omega | (simp <;> omega)))
    clear ho hb
    go_wp2_with fail
    refine (sptimes_fr a.d c _).mono ?_
    rintro e w5 ho
    obtain ⟨rfl, hb⟩ := ho.fn
    have kc0 := fun o => hb.cell (p := ⟨w.heap.size, o, none⟩) (by show w.heap.size < _; first | omega | (simp <;> omega))
    have kc1 := fun o => hb.cell (p := ⟨w.heap.size + 1, o, none⟩) (by show w.heap.size + 1 < _; first | omega | (simp <;> omega))
    have kc2 := fun o => hb.cell (p := ⟨w.heap.size + 1 + 1, o, none⟩) (by show w.heap.size + 1 + 1 < _; first | omega | (simp <;> omega))
    have kc3 := fun o => hb.cell (p := ⟨w2.heap.size, o, none⟩) (by show w2.heap.size < _; first | omega | (simp <;> omega))
    have kc4 := fun o => hb.cell (p := ⟨w3.heap.size, o, none⟩) (by show w3.heap.size < _; first | omega | (simp <;> omega))
    have kc5 := fun o => hb.cell (p := ⟨w4.heap.size, o, none⟩) (by show w4.heap.size < _; first | omega | (simp <;> omega))
    have kf0 := fun o => hb.frozen (p := ⟨w.heap.size + 1 + 1, o, none⟩) (by show w.heap.size + 1 + 1 < _; first | omega | (simp <;> omega))
    have hz := hb.size
    (try simp at hz)
    have kl0 : w.heap.size < w5.heap.size := by omega
    have kn0 : ¬ w.heap.size = w5.heap.size := by omega
    have km0 : ¬ w5.heap.size = w.heap.size := by omega
    have kl1 : w.heap.size + 1 < w5.heap.size := by omega
    have kn1 : ¬ w.heap.size + 1 = w5.heap.size := by omega
    have km1 : ¬ w5.heap.size = w.heap.size + 1 := by omega
    have kl2 : w.heap.size + 1 + 1 < w5.heap.size := by omega
    have kn2 : ¬ w.heap.size + 1 + 1 = w5.heap.size := by omega
    have km2 : ¬ w5.heap.size = w.heap.size + 1 + 1 := by omega
    have kl3 : w2.heap.size < w5.heap.size := by omega
    have kn3 : ¬ w2.heap.size = w5.heap.size := by omega
    have km3 : ¬ w5.heap.size = w2.heap.size := by omega
    have kl4 : w3.heap.size < w5.heap.size := by omega
    have kn4 : ¬ w3.heap.size = w5.heap.size := by omega
    have km4 : ¬ w5.heap.size = w3.heap.size := by omega
    have kl5 : w4.heap.size < w5.heap.size := by omega
    have kn5 : ¬ w4.heap.size = w5.heap.size := by omega
    have km5 : ¬ w5.heap.size = w4.heap.size := by omega
    have HB := Lib.hid (show Below w.heap.size w w5 from by exact HB.out.trans ((show Below _ _ _ from ((Below.refl _ _).alloc (by omega) _)).trans (hb.mono (by first | omega | (simp <;> omega)))))
    have HR := Lib.hid ((show Room _ (w.heap.size + 1 + 1) 4 from (HR.out.alloc (by omega) _)).below hb (by first | omega | (simp <;> omega)))
    clear ho hb
    go_wp2_with fail
    refine (l5Four_any _ _ _ _ _ _).mono ?_
    rintro e w6 ho
    rw [← HG.out] at ho
    obtain ⟨rfl, hb⟩ := ho.fn
    have kc0 := fun o => hb.cell (p := ⟨w.heap.size + 1 + 1, o, none⟩) (by show w.heap.size + 1 + 1 < _; first | omega | (simp <;> omega))
    have kf0 := fun o => hb.frozen (p := ⟨w.heap.size + 1 + 1, o, none⟩) (by show w.heap.size + 1 + 1 < _; first | omega | (simp <;> omega))
    have hz := hb.size
    (try simp at hz)
    have kl0 : w.heap.size + 1 + 1 < w6.heap.size := by omega
    have kn0 : ¬ w.heap.size + 1 + 1 = w6.heap.size := by omega
    have km0 : ¬ w6.heap.size = w.heap.size + 1 + 1 := by omega
    have HB := Lib.hid (show Below w.heap.size w w6 from by exact HB.out.trans ((show Below _ _ _ from ((Below.refl _ _).alloc (by omega) _)).trans (hb.mono (by first | omega | (simp <;> omega)))))
    have HR := Lib.hid ((show Room _ (w.heap.size + 1 + 1) 4 from (HR.out.alloc (by omega) _)).below hb (by first | omega | (simp <;> omega)))
    clear ho hb
    go_wp2
    refine bodyPost_ret (v := .tuple #[.agg #[.int .i64 (mScaS a c).1.a.re, .int .i64 (mScaS a c).1.a.im, .int .i64 (mScaS a c).1.a.den, .int .i64 (mScaS a c).1.b.re, .int .i64 (mScaS a c).1.b.im, .int .i64 (mScaS a c).1.b.den, .int .i64 (mScaS a c).1.c.re, .int .i64 (mScaS a c).1.c.im, .int .i64 (mScaS a c).1.c.den, .int .i64 (mScaS a c).1.d.re, .int .i64 (mScaS a c).1.d.im, .int .i64 (mScaS a c).1.d.den], .bool (mScaS a c).2]) ?_ rfl (M4Out.self' ?_)
    · exact Eq.trans (results_cell_mid2 Tryd.results58 _ _ (w.heap.size + 1 + 1) [.int .i64 (mScaS a c).1.a.re, .int .i64 (mScaS a c).1.a.im, .int .i64 (mScaS a c).1.a.den, .int .i64 (mScaS a c).1.b.re, .int .i64 (mScaS a c).1.b.im, .int .i64 (mScaS a c).1.b.den, .int .i64 (mScaS a c).1.c.re, .int .i64 (mScaS a c).1.c.im, .int .i64 (mScaS a c).1.c.den, .int .i64 (mScaS a c).1.d.re, .int .i64 (mScaS a c).1.d.im, .int .i64 (mScaS a c).1.d.den] _ (by rfl) (by ((repeat' first | (with_reducible refine World.rangeAt_setCells_same _ (w.heap.size + 1 + 1) 0 [.int .i64 (mScaS a c).1.a.re, .int .i64 (mScaS a c).1.a.im, .int .i64 (mScaS a c).1.a.den, .int .i64 (mScaS a c).1.b.re, .int .i64 (mScaS a c).1.b.im, .int .i64 (mScaS a c).1.b.den, .int .i64 (mScaS a c).1.c.re, .int .i64 (mScaS a c).1.c.im, .int .i64 (mScaS a c).1.c.den, .int .i64 (mScaS a c).1.d.re, .int .i64 (mScaS a c).1.d.im, .int .i64 (mScaS a c).1.d.den] ?_) | (with_reducible refine World.rangeAt_alloc ?_ _) | (with_reducible refine (World.rangeAt_drew _ _ _ _).2 ?_)); first | exact HR.out.there | (have hh := fun W h => World.rangeAt_setCells_same W (w.heap.size + 1 + 1) 0 [.int .i64 (mScaS a c).1.a.re, .int .i64 (mScaS a c).1.a.im, .int .i64 (mScaS a c).1.a.den, .int .i64 (mScaS a c).1.b.re, .int .i64 (mScaS a c).1.b.im, .int .i64 (mScaS a c).1.b.den, .int .i64 (mScaS a c).1.c.re, .int .i64 (mScaS a c).1.c.im, .int .i64 (mScaS a c).1.c.den, .int .i64 (mScaS a c).1.d.re, .int .i64 (mScaS a c).1.d.im, .int .i64 (mScaS a c).1.d.den] h; simp only [World.setCells, Nat.zero_add, Nat.reduceAdd] at hh; exact hh _ HR.out.there))) Tryd.underlying41 rfl (by kernel_rfl)) rfl
    · (repeat' first | (with_reducible exact HB.out) | with_reducible refine setCells_below _ _ _ ?_ (by first | omega | (simp <;> omega)) | with_reducible refine Below.setCell ?_ (by show _ ≤ _; first | omega | (simp <;> omega) | simp) _ | with_reducible refine Below.alloc ?_ (by first | omega | (simp <;> omega)) _ | with_reducible apply Below.drew)
  cases h4 : (fTimes a.d c).2
  · have HG : Hid (mScaS a c = g4 (fTimes a.a c).1 (fTimes a.b c).1 (fTimes a.c c).1 (fTimes a.d c).1 false) := by show _ = _; unfold mScaS; rw [if_pos h0]; simp [h1, h2, h3, h4]
    go_enter Tryd.func58, Tryd.ntmps58
    go_wp2_with fail
    refine (smatvalid_any a _).mono ?_
    rintro e w1 ho
    obtain ⟨rfl, hb⟩ := (id ho)
    have kc0 := fun o => hb.cell (p := ⟨w.heap.size, o, none⟩) (by show w.heap.size < _; first | omega | (simp <;> omega))
    have kc1 := fun o => hb.cell (p := ⟨w.heap.size + 1, o, none⟩) (by show w.heap.size + 1 < _; first | omega | (simp <;> omega))
    have kc2 := fun o => hb.cell (p := ⟨w.heap.size + 1 + 1, o, none⟩) (by show w.heap.size + 1 + 1 < _; first | omega | (simp <;> omega))
    have kf0 := fun o => hb.frozen (p := ⟨w.heap.size + 1 + 1, o, none⟩) (by show w.heap.size + 1 + 1 < _; first | omega | (simp <;> omega))
    have hz := hb.size
    (try simp at hz)
    have kl0 : w.heap.size < w1.heap.size := by omega
    have kn0 : ¬ w.heap.size = w1.heap.size := by omega
    have km0 : ¬ w1.heap.size = w.heap.size := by omega
    have kl1 : w.heap.size + 1 < w1.heap.size := by omega
    have kn1 : ¬ w.heap.size + 1 = w1.heap.size := by omega
    have km1 : ¬ w1.heap.size = w.heap.size + 1 := by omega
    have kl2 : w.heap.size + 1 + 1 < w1.heap.size := by omega
    have kn2 : ¬ w.heap.size + 1 + 1 = w1.heap.size := by omega
    have km2 : ¬ w1.heap.size = w.heap.size + 1 + 1 := by omega
    have HB := Lib.hid (show Below w.heap.size w w1 from by (repeat' first | exact Below.refl _ _ | apply bl_alloc | apply bl_drewN | apply bl_drew | refine bl_trans ?_ (by assumption) | refine bl_set ?_ (by first | omega | (simp <;> omega)) _))
    have HR := Lib.hid ((show Room _ (w.heap.size + 1 + 1) 4 from (Room.new' (by simp) rfl)).below hb (by first | omega | (simp <;> omega)))
    clear ho hb
    go_wp2_with fail
    refine (sptimes_fr a.a c _).mono ?_
    rintro e w2 ho
    obtain ⟨rfl, hb⟩ := ho.fn
    have kc0 := fun o => hb.cell (p := ⟨w.heap.size, o, none⟩) (by show w.heap.size < _; first | omega | (simp <;> omega))
    have kc1 := fun o => hb.cell (p := ⟨w.heap.size + 1, o, none⟩) (by show w.heap.size + 1 < _; first | omega | (simp <;> omega))
    have kc2 := fun o => hb.cell (p := ⟨w.heap.size + 1 + 1, o, none⟩) (by show w.heap.size + 1 + 1 < _; first | omega | (simp <;> omega))
    have kf0 := fun o => hb.frozen (p := ⟨w.heap.size + 1 + 1, o, none⟩) (by show w.heap.size + 1 + 1 < _; first | omega | (simp <;> omega))
    have hz := hb.size
    (try simp at hz)
    have kl0 : w.heap.size < w2.heap.size := by omega
    have kn0 : ¬ w.heap.size = w2.heap.size := by omega
    have km0 : ¬ w2.heap.size = w.heap.size := by omega
    have kl1 : w.heap.size + 1 < w2.heap.size := by omega
    have kn1 : ¬ w.heap.size + 1 = w2.heap.size := by omega
    have km1 : ¬ w2.heap.size = w.heap.size + 1 := by omega
    have kl2 : w.heap.size + 1 + 1 < w2.heap.size := by omega
    have kn2 : ¬ w.heap.size + 1 + 1 = w2.heap.size := by omega
    have km2 : ¬ w2.heap.size = w.heap.size + 1 + 1 := by omega
    have HB := Lib.hid (show Below w.heap.size w w2 from by exact HB.out.trans ((show Below _ _ _ from (Below.refl _ _)).trans (hb.mono (by first | omega | (simp <;> omega)))))
    have HR := Lib.hid ((show Room _ (w.heap.size + 1 + 1) 4 from HR.out).below hb (by first | omega | (simp <;> omega)))
    clear ho hb
    go_wp2_with fail
    refine (sptimes_fr a.b c _).mono ?_
    rintro e w3 ho
    obtain ⟨rfl, hb⟩ := ho.fn
    have kc0 := fun o => hb.cell (p := ⟨w.heap.size, o, none⟩) (by show w.heap.size < _; first | omega | (simp <;> omega))
    have kc1 := fun o => hb.cell (p := ⟨w.heap.size + 1, o, none⟩) (by show w.heap.size + 1 < _; first | omega | (simp <;> omega))
    have kc2 := fun o => hb.cell (p := ⟨w.heap.size + 1 + 1, o, none⟩) (by show w.heap.size + 1 + 1 < _; first | omega | (simp <;> omega))
    have kc3 := fun o => hb.cell (p := ⟨w2.heap.size, o, none⟩) (by show w2.heap.size < _; first | omega | (simp <;> omega))
    have kf0 := fun o => hb.frozen (p := ⟨w.heap.size + 1 + 1, o, none⟩) (by show w.heap.size + 1 + 1 < _; first | omega | (simp <;> omega))
    have hz := hb.size
    (try simp at hz)
    have kl0 : w.heap.size < w3.heap.size := by omega
    have kn0 : ¬ w.heap.size = w3.heap.size := by omega
    have km0 : ¬ w3.heap.size = w.heap.size := by omega
    have kl1 : w.heap.size + 1 < w3.heap.size := by omega
    have kn1 : ¬ w.heap.size + 1 = w3.heap.size := by omega
    have km1 : ¬ w3.heap.size = w.heap.size + 1 := by omega
    have kl2 : w.heap.size + 1 + 1 < w3.heap.size := by omega
    have kn2 : ¬ w.heap.size + 1 + 1 = w3.heap.size := by omega
    have km2 : ¬ w3.heap.size = w.heap.size + 1 + 1 := by omega
    have kl3 : w2.heap.size < w3.heap.size := by omega
    have kn3 : ¬ w2.heap.size = w3.heap.size := by omega
    have km3 : ¬ w3.heap.size = w2.heap.size := by omega
    have HB := Lib.hid (show Below w.heap.size w w3 from by exact HB.out.trans ((show Below _ _ _ from ((Below.refl _ _).alloc (by omega) _)).trans (hb.mono (by first | omega | (simp <;> omega)))))
    have HR := Lib.hid ((show Room _ (w.heap.size + 1 + 1) 4 from (HR.out.alloc (by omega) _)).below hb (by first | omega | (simp <;> omega)))
    clear ho hb
    go_wp2_with fail
    refine (sptimes_fr a.c c _).mono ?_
    rintro e w4 ho
    obtain ⟨rfl, hb⟩ := ho.fn
    have kc0 := fun o => hb.cell (p := ⟨w.heap.size, o, none⟩) (by show w.heap.size < _; first | omega | (simp <;> omega))
    have kc1 := fun o => hb.cell (p := ⟨w.heap.size + 1, o, none⟩) (by show w.heap.size + 1 < _; first | omega | (simp <;> omega))
    have kc2 := fun o => hb.cell (p := ⟨w.heap.size + 1 + 1, o, none⟩) (by show w.heap.size + 1 + 1 < _; first | omega | (simp <;> omega))
    have kc3 := fun o => hb.cell (p := ⟨w2.heap.size, o, none⟩) (by show w2.heap.size < _; first | omega | (simp <;> omega))
    have kc4 := fun o => hb.cell (p := ⟨w3.heap.size, o, none⟩) (by show w3.heap.size < _; first | omega | (simp <;> omega))
    have kf0 := fun o => hb.frozen (p := ⟨w.heap.size + 1 + 1, o, none⟩) (by show w.heap.size + 1 + 1 < _; first | omega | (simp <;> omega))
    have hz := hb.size
    (try simp at hz)
    have kl0 : w.heap.size < w4.heap.size := by omega
    have kn0 : ¬ w.heap.size = w4.heap.size := by omega
    have km0 : ¬ w4.heap.size = w.heap.size := by omega
    have kl1 : w.heap.size + 1 < w4.heap.size := by omega
    have kn1 : ¬ w.heap.size + 1 = w4.heap.size := by omega
    have km1 : ¬ w4.heap.size = w.heap.size + 1 := by omega
    have kl2 : w.heap.size + 1 + 1 < w4.heap.size := by omega
    have kn2 : ¬ w.heap.size + 1 + 1 = w4.heap.size := by omega
    have km2 : ¬ w4.heap.size = w.heap.size + 1 + 1 := by omega
    have kl3 : w2.heap.size < w4.heap.size := by omega
    have kn3 : ¬ w2.heap.size = w4.heap.size := by omega
    have km3 : ¬ w4.heap.size = w2.heap.size := by omega
    have kl4 : w3.heap.size < w4.heap.size := by omega
    have kn4 : ¬ w3.heap.size = w4.heap.size := by omega
    have km4 : ¬ w4.heap.size = w3.heap.size := by omega
    have HB := Lib.hid (show Below w.heap.size w w4 from by exact HB.out.trans ((show Below _ _ _ from ((Below.refl _ _).alloc (by omega) _)).trans (hb.mono (by first | omega | (simp <;> omega)))))
    have HR := Lib.hid ((show Room _ (w.heap.size + 1 + 1) 4 from (HR.out.alloc (by omega) _)).below hb (by first | omega | (simp <;> omega)))
    clear ho hb
    go_wp2_with fail
    refine (sptimes_fr a.d c _).mono ?_
    rintro e w5 ho
    obtain ⟨rfl, hb⟩ := ho.fn
    have kc0 := fun o => hb.cell (p := ⟨w.heap.size, o, none⟩) (by show w.heap.size < _; first | omega | (simp <;> omega))
    have kc1 := fun o => hb.cell (p := ⟨w.heap.size + 1, o, none⟩) (by show w.heap.size + 1 < _; first | omega | (simp <;> omega))
    have kc2 := fun o => hb.cell (p := ⟨w.heap.size + 1 + 1, o, none⟩) (by show w.heap.size + 1 + 1 < _; first | omega | (simp <;> omega))
    have kc3 := fun o => hb.cell (p := ⟨w2.heap.size, o, none⟩) (by show w2.heap.size < _; first | omega | (simp <;> omega))
    have kc4 := fun o => hb.cell (p := ⟨w3.heap.size, o, none⟩) (by show w3.heap.size < _; first | omega | (simp <;> omega))
    have kc5 := fun o => hb.cell (p := ⟨w4.heap.size, o, none⟩) (by show w4.heap.size < _; first | omega | (simp <;> omega))
    have kf0 := fun o => hb.frozen (p := ⟨w.heap.size + 1 + 1, o, none⟩) (by show w.heap.size + 1 + 1 < _; first | omega | (simp <;> omega))
    have hz := hb.size
    (try simp at hz)
    have kl0 : w.heap.size < w5.heap.size := by omega
    have kn0 : ¬ w.heap.size = w5.heap.size := by omega
    have km0 : ¬ w5.heap.size = w.heap.size := by omega
    have kl1 : w.heap.size + 1 < w5.heap.size := by omega
    have kn1 : ¬ w.heap.size + 1 = w5.heap.size := by omega
    have km1 : ¬ w5.heap.size = w.heap.size + 1 := by omega
    have kl2 : w.heap.size + 1 + 1 < w5.heap.size := by omega
    have kn2 : ¬ w.heap.size + 1 + 1 = w5.heap.size := by omega
    have km2 : ¬ w5.heap.size = w.heap.size + 1 + 1 := by omega
    have kl3 : w2.heap.size < w5.heap.size := by omega
    have kn3 : ¬ w2.heap.size = w5.heap.size := by omega
    have km3 : ¬ w5.heap.size = w2.heap.size := by omega
    have kl4 : w3.heap.size < w5.heap.size := by omega
    have kn4 : ¬ w3.heap.size = w5.heap.size := by omega
    have km4 : ¬ w5.heap.size = w3.heap.size := by omega
    have kl5 : w4.heap.size < w5.heap.size := by omega
    have kn5 : ¬ w4.heap.size = w5.heap.size := by omega
    have km5 : ¬ w5.heap.size = w4.heap.size := by omega
    have HB := Lib.hid (show Below w.heap.size w w5 from by exact HB.out.trans ((show Below _ _ _ from ((Below.refl _ _).alloc (by omega) _)).trans (hb.mono (by first | omega | (simp <;> omega)))))
    have HR := Lib.hid ((show Room _ (w.heap.size + 1 + 1) 4 from (HR.out.alloc (by omega) _)).below hb (by first | omega | (simp <;> omega)))
    clear ho hb
    go_wp2_with fail
    refine (l5Four_any _ _ _ _ _ _).mono ?_
    rintro e w6 ho
    rw [← HG.out] at ho
    obtain ⟨rfl, hb⟩ := ho.fn
    have kc0 := fun o => hb.cell (p := ⟨w.heap.size + 1 + 1, o, none⟩) (by show w.heap.size + 1 + 1 < _; first | omega | (simp <;> omega))
    have kf0 := fun o => hb.frozen (p := ⟨w.heap.size + 1 + 1, o, none⟩) (by show w.heap.size + 1 + 1 < _; first | omega | (simp <;> omega))
    have hz := hb.size
    (try simp at hz)
    have kl0 : w.heap.size + 1 + 1 < w6.heap.size := by omega
    have kn0 : ¬ w.heap.size + 1 + 1 = w6.heap.size := by omega
    have km0 : ¬ w6.heap.size = w.heap.size + 1 + 1 := by omega
    have HB := Lib.hid (show Below w.heap.size w w6 from by exact HB.out.trans ((show Below _ _ _ from ((Below.refl _ _).alloc (by omega) _)).trans (hb.mono (by first | omega | (simp <;> omega)))))
    have HR := Lib.hid ((show Room _ (w.heap.size + 1 + 1) 4 from (HR.out.alloc (by omega) _)).below hb (by first | omega | (simp <;> omega)))
    clear ho hb
    go_wp2
    refine bodyPost_ret (v := .tuple #[.agg #[.int .i64 (mScaS a c).1.a.re, .int .i64 (mScaS a c).1.a.im, .int .i64 (mScaS a c).1.a.den, .int .i64 (mScaS a c).1.b.re, .int .i64 (mScaS a c).1.b.im, .int .i64 (mScaS a c).1.b.den, .int .i64 (mScaS a c).1.c.re, .int .i64 (mScaS a c).1.c.im, .int .i64 (mScaS a c).1.c.den, .int .i64 (mScaS a c).1.d.re, .int .i64 (mScaS a c).1.d.im, .int .i64 (mScaS a c).1.d.den], .bool (mScaS a c).2]) ?_ rfl (M4Out.self' ?_)
    · exact Eq.trans (results_cell_mid2 Tryd.results58 _ _ (w.heap.size + 1 + 1) [.int .i64 (mScaS a c).1.a.re, .int .i64 (mScaS a c).1.a.im, .int .i64 (mScaS a c).1.a.den, .int .i64 (mScaS a c).1.b.re, .int .i64 (mScaS a c).1.b.im, .int .i64 (mScaS a c).1.b.den, .int .i64 (mScaS a c).1.c.re, .int .i64 (mScaS a c).1.c.im, .int .i64 (mScaS a c).1.c.den, .int .i64 (mScaS a c).1.d.re, .int .i64 (mScaS a c).1.d.im, .int .i64 (mScaS a c).1.d.den] _ (by rfl) (by ((repeat' first | (with_reducible refine World.rangeAt_setCells_same _ (w.heap.size + 1 + 1) 0 [.int .i64 (mScaS a c).1.a.re, .int .i64 (mScaS a c).1.a.im, .int .i64 (mScaS a c).1.a.den, .int .i64 (mScaS a c).1.b.re, .int .i64 (mScaS a c).1.b.im, .int .i64 (mScaS a c).1.b.den, .int .i64 (mScaS a c).1.c.re, .int .i64 (mScaS a c).1.c.im, .int .i64 (mScaS a c).1.c.den, .int .i64 (mScaS a c).1.d.re, .int .i64 (mScaS a c).1.d.im, .int .i64 (mScaS a c).1.d.den] ?_) | (with_reducible refine World.rangeAt_alloc ?_ _) | (with_reducible refine (World.rangeAt_drew _ _ _ _).2 ?_)); first | exact HR.out.there | (have hh := fun W h => World.rangeAt_setCells_same W (w.heap.size + 1 + 1) 0 [.int .i64 (mScaS a c).1.a.re, .int .i64 (mScaS a c).1.a.im, .int .i64 (mScaS a c).1.a.den, .int .i64 (mScaS a c).1.b.re, .int .i64 (mScaS a c).1.b.im, .int .i64 (mScaS a c).1.b.den, .int .i64 (mScaS a c).1.c.re, .int .i64 (mScaS a c).1.c.im, .int .i64 (mScaS a c).1.c.den, .int .i64 (mScaS a c).1.d.re, .int .i64 (mScaS a c).1.d.im, .int .i64 (mScaS a c).1.d.den] h; simp only [World.setCells, Nat.zero_add, Nat.reduceAdd] at hh; exact hh _ HR.out.there))) Tryd.underlying41 rfl (by kernel_rfl)) rfl
    · (repeat' first | (with_reducible exact HB.out) | with_reducible refine setCells_below _ _ _ ?_ (by first | omega | (simp <;> omega)) | with_reducible refine Below.setCell ?_ (by show _ ≤ _; first | omega | (simp <;> omega) | simp) _ | with_reducible refine Below.alloc ?_ (by first | omega | (simp <;> omega)) _ | with_reducible apply Below.drew)
  · have HG : Hid (mScaS a c = g4 (fTimes a.a c).1 (fTimes a.b c).1 (fTimes a.c c).1 (fTimes a.d c).1 true) := by show _ = _; unfold mScaS; rw [if_pos h0]; simp [h1, h2, h3, h4]
    go_enter Tryd.func58, Tryd.ntmps58
    go_wp2_with fail
    refine (smatvalid_any a _).mono ?_
    rintro e w1 ho
    obtain ⟨rfl, hb⟩ := (id ho)
    have kc0 := fun o => hb.cell (p := ⟨w.heap.size, o, none⟩) (by show w.heap.size < _; first | omega | (simp <;> omega))
    have kc1 := fun o => hb.cell (p := ⟨w.heap.size + 1, o, none⟩) (by show w.heap.size + 1 < _; first | omega | (simp <;> omega))
    have kc2 := fun o => hb.cell (p := ⟨w.heap.size + 1 + 1, o, none⟩) (by show w.heap.size + 1 + 1 < _; first | omega | (simp <;> omega))
    have kf0 := fun o => hb.frozen (p := ⟨w.heap.size + 1 + 1, o, none⟩) (by show w.heap.size + 1 + 1 < _; first | omega | (simp <;> omega))
    have hz := hb.size
    (try simp at hz)
    have kl0 : w.heap.size < w1.heap.size := by omega
    have kn0 : ¬ w.heap.size = w1.heap.size := by omega
    have km0 : ¬ w1.heap.size = w.heap.size := by omega
    have kl1 : w.heap.size + 1 < w1.heap.size := by omega
    have kn1 : ¬ w.heap.size + 1 = w1.heap.size := by omega
    have km1 : ¬ w1.heap.size = w.heap.size + 1 := by omega
    have kl2 : w.heap.size + 1 + 1 < w1.heap.size := by omega
    have kn2 : ¬ w.heap.size + 1 + 1 = w1.heap.size := by omega
    have km2 : ¬ w1.heap.size = w.heap.size + 1 + 1 := by omega
    have HB := Lib.hid (show Below w.heap.size w w1 from by (repeat' first | exact Below.refl _ _ | apply bl_alloc | apply bl_drewN | apply bl_drew | refine bl_trans ?_ (by assumption) | refine bl_set ?_ (by first | omega | (simp <;> omega)) _))
    have HR := Lib.hid ((show Room _ (w.heap.size + 1 + 1) 4 from (Room.new' (by simp) rfl)).below hb (by first | omega | (simp <;> omega)))
    clear ho hb
    go_wp2_with fail
    refine (sptimes_fr a.a c _).mono ?_
    rintro e w2 ho
    obtain ⟨rfl, hb⟩ := ho.fn
    have kc0 := fun o => hb.cell (p := ⟨w.heap.size, o, none⟩) (by show w.heap.size < _; first | omega | (simp <;> omega))
    have kc1 := fun o => hb.cell (p := ⟨w.heap.size + 1, o, none⟩) (by show w.heap.size + 1 < _; first | omega | (simp <;> omega))
    have kc2 := fun o => hb.cell (p := ⟨w.heap.size + 1 + 1, o, none⟩) (by show w.heap.size + 1 + 1 < _; first | omega | (simp <;> omega))
    have kf0 := fun o => hb.frozen (p := ⟨w.heap.size + 1 + 1, o, none⟩) (by show w.heap.size + 1 + 1 < _; first | omega | (simp <;> omega))
    have hz := hb.size
    (try simp at hz)
    have kl0 : w.heap.size < w2.heap.size := by omega
    have kn0 : ¬ w.heap.size = w2.heap.size := by omega
    have km0 : ¬ w2.heap.size = w.heap.size := by omega
    have kl1 : w.heap.size + 1 < w2.heap.size := by omega
    have kn1 : ¬ w.heap.size + 1 = w2.heap.size := by omega
    have km1 : ¬ w2.heap.size = w.heap.size + 1 := by omega
    have kl2 : w.heap.size + 1 + 1 < w2.heap.size := by omega
    have kn2 : ¬ w.heap.size + 1 + 1 = w2.heap.size := by omega
    have km2 : ¬ w2.heap.size = w.heap.size + 1 + 1 := by omega
    have HB := Lib.hid (show Below w.heap.size w w2 from by exact HB.out.trans ((show Below _ _ _ from (Below.refl _ _)).trans (hb.mono (by first | omega | (simp <;> omega)))))
    have HR := Lib.hid ((show Room _ (w.heap.size + 1 + 1) 4 from HR.out).below hb (by first | omega | (simp <;> omega)))
    clear ho hb
    go_wp2_with fail
    refine (sptimes_fr a.b c _).mono ?_
    rintro e w3 ho
    obtain ⟨rfl, hb⟩ := ho.fn
    have kc0 := fun o => hb.cell (p := ⟨w.heap.size, o, none⟩) (by show w.heap.size < _; first | omega | (simp <;> omega))
    have kc1 := fun o => hb.cell (p := ⟨w.heap.size + 1, o, none⟩) (by show w.heap.size + 1 < _; first | omega | (simp <;> omega))
    have kc2 := fun o => hb.cell (p := ⟨w.heap.size + 1 + 1, o, none⟩) (by show w.heap.size + 1 + 1 < _; first | omega | (simp <;> omega))
    have kc3 := fun o => hb.cell (p := ⟨w2.heap.size, o, none⟩) (by show w2.heap.size < _; first | omega | (simp <;> omega))
    have kf0 := fun o => hb.frozen (p := ⟨w.heap.size + 1 + 1, o, none⟩) (by show w.heap.size + 1 + 1 < _; first | omega | (simp <;> omega))
    have hz := hb.size
    (try simp at hz)
    have kl0 : w.heap.size < w3.heap.size := by omega
    have kn0 : ¬ w.heap.size = w3.heap.size := by omega
    have km0 : ¬ w3.heap.size = w.heap.size := by omega
    have kl1 : w.heap.size + 1 < w3.heap.size := by omega
    have kn1 : ¬ w.heap.size + 1 = w3.heap.size := by omega
    have km1 : ¬ w3.heap.size = w.heap.size + 1 := by omega
    have kl2 : w.heap.size + 1 + 1 < w3.heap.size := by omega
    have kn2 : ¬ w.heap.size + 1 + 1 = w3.heap.size := by omega
    have km2 : ¬ w3.heap.size = w.heap.size + 1 + 1 := by omega
    have kl3 : w2.heap.size < w3.heap.size := by omega
    have kn3 : ¬ w2.heap.size = w3.heap.size := by omega
    have km3 : ¬ w3.heap.size = w2.heap.size := by omega
    have HB := Lib.hid (show Below w.heap.size w w3 from by exact HB.out.trans ((show Below _ _ _ from ((Below.refl _ _).alloc (by omega) _)).trans (hb.mono (by first | omega | (simp <;> omega)))))
    have HR := Lib.hid ((show Room _ (w.heap.size + 1 + 1) 4 from (HR.out.alloc (by omega) _)).below hb (by first | omega | (simp <;> omega)))
    clear ho hb
    go_wp2_with fail
    refine (sptimes_fr a.c c _).mono ?_
    rintro e w4 ho
    obtain ⟨rfl, hb⟩ := ho.fn
    have kc0 := fun o => hb.cell (p := ⟨w.heap.size, o, none⟩) (by show w.heap.size < _; first | omega | (simp <;> omega))
    have kc1 := fun o => hb.cell (p := ⟨w.heap.size + 1, o, none⟩) (by show w.heap.size + 1 < _; first | omega | (simp <;> omega))
    have kc2 := fun o => hb.cell (p := ⟨w.heap.size + 1 + 1, o, none⟩) (by show w.heap.size + 1 + 1 < _; first | omega | (simp <;> omega))
    have kc3 := fun o => hb.cell (p := ⟨w2.heap.size, o, none⟩) (by show w2.heap.size < _; first | omega | (simp <;> omega))
    have kc4 := fun o => hb.cell (p := ⟨w3.heap.size, o, none⟩) (by show w3.heap.size < _; first | omega | (simp <;> omega))
    have kf0 := fun o => hb.frozen (p := ⟨w.heap.size + 1 + 1, o, none⟩) (by show w.heap.size + 1 + 1 < _; first | omega | (simp <;> omega))
    have hz := hb.size
    (try simp at hz)
    have kl0 : w.heap.size < w4.heap.size := by omega
    have kn0 : ¬ w.heap.size = w4.heap.size := by omega
    have km0 : ¬ w4.heap.size = w.heap.size := by omega
    have kl1 : w.heap.size + 1 < w4.heap.size := by omega
    have kn1 : ¬ w.heap.size + 1 = w4.heap.size := by omega
    have km1 : ¬ w4.heap.size = w.heap.size + 1 := by omega
    have kl2 : w.heap.size + 1 + 1 < w4.heap.size := by omega
    have kn2 : ¬ w.heap.size + 1 + 1 = w4.heap.size := by omega
    have km2 : ¬ w4.heap.size = w.heap.size + 1 + 1 := by omega
    have kl3 : w2.heap.size < w4.heap.size := by omega
    have kn3 : ¬ w2.heap.size = w4.heap.size := by omega
    have km3 : ¬ w4.heap.size = w2.heap.size := by omega
    have kl4 : w3.heap.size < w4.heap.size := by omega
    have kn4 : ¬ w3.heap.size = w4.heap.size := by omega
    have km4 : ¬ w4.heap.size = w3.heap.size := by omega
    have HB := Lib.hid (show Below w.heap.size w w4 from by exact HB.out.trans ((show Below _ _ _ from ((Below.refl _ _).alloc (by omega) _)).trans (hb.mono (by first | omega | (simp <;> omega)))))
    have HR := Lib.hid ((show Room _ (w.heap.size + 1 + 1) 4 from (HR.out.alloc (by omega) _)).below hb (by first | omega | (simp <;> omega)))
    clear ho hb
    go_wp2_with fail
    refine (sptimes_fr a.d c _).mono ?_
    rintro e w5 ho
    obtain ⟨rfl, hb⟩ := ho.fn
    have kc0 := fun o => hb.cell (p := ⟨w.heap.size, o, none⟩) (by show w.heap.size < _; first | omega | (simp <;> omega))
    have kc1 := fun o => hb.cell (p := ⟨w.heap.size + 1, o, none⟩) (by show w.heap.size + 1 < _; first | omega | (simp <;> omega))
    have kc2 := fun o => hb.cell (p := ⟨w.heap.size + 1 + 1, o, none⟩) (by show w.heap.size + 1 + 1 < _; first | omega | (simp <;> omega))
    have kc3 := fun o => hb.cell (p := ⟨w2.heap.size, o, none⟩) (by show w2.heap.size < _; first | omega | (simp <;> omega))
    have kc4 := fun o => hb.cell (p := ⟨w3.heap.size, o, none⟩) (by show w3.heap.size < _; first | omega | (simp <;> omega))
    have kc5 := fun o => hb.cell (p := ⟨w4.heap.size, o, none⟩) (by show w4.heap.size < _; first | omega | (simp <;> omega))
    have kf0 := fun o => hb.frozen (p := ⟨w.heap.size + 1 + 1, o, none⟩) (by show w.heap.size + 1 + 1 < _; first | omega | (simp <;> omega))
    have hz := hb.size
    (try simp at hz)
    have kl0 : w.heap.size < w5.heap.size := by omega
    have kn0 : ¬ w.heap.size = w5.heap.size := by omega
    have km0 : ¬ w5.heap.size = w.heap.size := by omega
    have kl1 : w.heap.size + 1 < w5.heap.size := by omega
    have kn1 : ¬ w.heap.size + 1 = w5.heap.size := by omega
    have km1 : ¬ w5.heap.size = w.heap.size + 1 := by omega
    have kl2 : w.heap.size + 1 + 1 < w5.heap.size := by omega
    have kn2 : ¬ w.heap.size + 1 + 1 = w5.heap.size := by omega
    have km2 : ¬ w5.heap.size = w.heap.size + 1 + 1 := by omega
    have kl3 : w2.heap.size < w5.heap.size := by omega
    have kn3 : ¬ w2.heap.size = w5.heap.size := by omega
    have km3 : ¬ w5.heap.size = w2.heap.size := by omega
    have kl4 : w3.heap.size < w5.heap.size := by omega
    have kn4 : ¬ w3.heap.size = w5.heap.size := by omega
    have km4 : ¬ w5.heap.size = w3.heap.size := by omega
    have kl5 : w4.heap.size < w5.heap.size := by omega
    have kn5 : ¬ w4.heap.size = w5.heap.size := by omega
    have km5 : ¬ w5.heap.size = w4.heap.size := by omega
    have HB := Lib.hid (show Below w.heap.size w w5 from by exact HB.out.trans ((show Below _ _ _ from ((Below.refl _ _).alloc (by omega) _)).trans (hb.mono (by first | omega | (simp <;> omega)))))
    have HR := Lib.hid ((show Room _ (w.heap.size + 1 + 1) 4 from (HR.out.alloc (by omega) _)).below hb (by first | omega | (simp <;> omega)))
    clear ho hb
    go_wp2_with fail
    refine (l5Four_any _ _ _ _ _ _).mono ?_
    rintro e w6 ho
    rw [← HG.out] at ho
    obtain ⟨rfl, hb⟩ := ho.fn
    have kc0 := fun o => hb.cell (p := ⟨w.heap.size + 1 + 1, o, none⟩) (by show w.heap.size + 1 + 1 < _; first | omega | (simp <;> omega))
    have kf0 := fun o => hb.frozen (p := ⟨w.heap.size + 1 + 1, o, none⟩) (by show w.heap.size + 1 + 1 < _; first | omega | (simp <;> omega))
    have hz := hb.size
    (try simp at hz)
    have kl0 : w.heap.size + 1 + 1 < w6.heap.size := by omega
    have kn0 : ¬ w.heap.size + 1 + 1 = w6.heap.size := by omega
    have km0 : ¬ w6.heap.size = w.heap.size + 1 + 1 := by omega
    have HB := Lib.hid (show Below w.heap.size w w6 from by exact HB.out.trans ((show Below _ _ _ from ((Below.refl _ _).alloc (by omega) _)).trans (hb.mono (by first | omega | (simp <;> omega)))))
    have HR := Lib.hid ((show Room _ (w.heap.size + 1 + 1) 4 from (HR.out.alloc (by omega) _)).below hb (by first | omega | (simp <;> omega)))
    clear ho hb
    go_wp2
    refine bodyPost_ret (v := .tuple #[.agg #[.int .i64 (mScaS a c).1.a.re, .int .i64 (mScaS a c).1.a.im, .int .i64 (mScaS a c).1.a.den, .int .i64 (mScaS a c).1.b.re, .int .i64 (mScaS a c).1.b.im, .int .i64 (mScaS a c).1.b.den, .int .i64 (mScaS a c).1.c.re, .int .i64 (mScaS a c).1.c.im, .int .i64 (mScaS a c).1.c.den, .int .i64 (mScaS a c).1.d.re, .int .i64 (mScaS a c).1.d.im, .int .i64 (mScaS a c).1.d.den], .bool (mScaS a c).2]) ?_ rfl (M4Out.self' ?_)
    · exact Eq.trans (results_cell_mid2 Tryd.results58 _ _ (w.heap.size + 1 + 1) [.int .i64 (mScaS a c).1.a.re, .int .i64 (mScaS a c).1.a.im, .int .i64 (mScaS a c).1.a.den, .int .i64 (mScaS a c).1.b.re, .int .i64 (mScaS a c).1.b.im, .int .i64 (mScaS a c).1.b.den, .int .i64 (mScaS a c).1.c.re, .int .i64 (mScaS a c).1.c.im, .int .i64 (mScaS a c).1.c.den, .int .i64 (mScaS a c).1.d.re, .int .i64 (mScaS a c).1.d.im, .int .i64 (mScaS a c).1.d.den] _ (by rfl) (by ((repeat' first | (with_reducible refine World.rangeAt_setCells_same _ (w.heap.size + 1 + 1) 0 [.int .i64 (mScaS a c).1.a.re, .int .i64 (mScaS a c).1.a.im, .int .i64 (mScaS a c).1.a.den, .int .i64 (mScaS a c).1.b.re, .int .i64 (mScaS a c).1.b.im, .int .i64 (mScaS a c).1.b.den, .int .i64 (mScaS a c).1.c.re, .int .i64 (mScaS a c).1.c.im, .int .i64 (mScaS a c).1.c.den, .int .i64 (mScaS a c).1.d.re, .int .i64 (mScaS a c).1.d.im, .int .i64 (mScaS a c).1.d.den] ?_) | (with_reducible refine World.rangeAt_alloc ?_ _) | (with_reducible refine (World.rangeAt_drew _ _ _ _).2 ?_)); first | exact HR.out.there | (have hh := fun W h => World.rangeAt_setCells_same W (w.heap.size + 1 + 1) 0 [.int .i64 (mScaS a c).1.a.re, .int .i64 (mScaS a c).1.a.im, .int .i64 (mScaS a c).1.a.den, .int .i64 (mScaS a c).1.b.re, .int .i64 (mScaS a c).1.b.im, .int .i64 (mScaS a c).1.b.den, .int .i64 (mScaS a c).1.c.re, .int .i64 (mScaS a c).1.c.im, .int .i64 (mScaS a c).1.c.den, .int .i64 (mScaS a c).1.d.re, .int .i64 (mScaS a c).1.d.im, .int .i64 (mScaS a c).1.d.den] h; simp only [World.setCells, Nat.zero_add, Nat.reduceAdd] at hh; exact hh _ HR.out.there))) Tryd.underlying41 rfl (by kernel_rfl)) rfl
    · (repeat' first | (with_reducible exact HB.out) | with_reducible refine setCells_below _ _ _ ?_ (by first | omega | (simp <;> omega)) | with_reducible refine Below.setCell ?_ (by show _ ≤ _; first | omega | (simp <;> omega) | simp) _ | with_reducible refine Below.alloc ?_ (by first | omega | (simp <;> omega)) _ | with_reducible apply Below.drew)
theorem ssca_any (a : M4) (c : Fr) (w : World) : Calls Tryd.prog 58 #[.agg #[.int .i64 a.a.re, .int .i64 a.a.im, .int .i64 a.a.den, .int .i64 a.b.re, .int .i64 a.b.im, .int .i64 a.b.den, .int .i64 a.c.re, .int .i64 a.c.im, .int .i64 a.c.den, .int .i64 a.d.re, .int .i64 a.d.im, .int .i64 a.d.den], .agg #[.int .i64 c.re, .int .i64 c.im, .int .i64 c.den]] w (M4Out (mSca a c) w) := mScaS_eq a c ▸ ssca0_any a c w
end Go.Proofs.YtmcokdiopcpifaaDoor
