/- Plain facts: the four numbers of a vector are pure light, and the same for a vector that is turned. -/
import Derived.Test.YtlmpbijhidnekaaQM
import Derived.Test.YtlmpbijhidnekaaQD
namespace Go.Proofs.Ytlmpbijhidnekaa
open Pol

def fI : Fr := ⟨0, 1, 1⟩
theorem vld_fI : vld fI = true := by decide
theorem times_i {a : Fr} (h : vld a = true) : fTimes a fI = (⟨-a.im, a.re, a.den⟩, true) := by
  have a1 : rv fI = 0 := by show ((0 : Int) : Rat) / ((1 : Int) : Rat) = 0; grind
  have a2 : iv fI = 1 := by show ((1 : Int) : Rat) / ((1 : Int) : Rat) = 1; grind
  have hv : vld ⟨-a.im, a.re, a.den⟩ = true := by
    obtain ⟨h1, h2, h3, h4⟩ := (vld_iff a).1 h
    refine (vld_iff _).2 ⟨by show -2000000000 ≤ -a.im ∧ -a.im ≤ 2000000000; omega, h1, h3, ?_⟩
    show g3 (-a.im) a.re a.den = 1
    rw [g3_neg_re]
    have : g3 a.im a.re a.den = g3 a.re a.im a.den := by unfold g3; rw [gc_comm a.im a.re]
    rw [this]; exact h4
  have n1 : rv ⟨-a.im, a.re, a.den⟩ = - iv a := by
    show ((-a.im : Int) : Rat) / (a.den : Rat) = -((a.im : Rat) / (a.den : Rat))
    rw [Rat.intCast_neg, Rat.div_def, Rat.div_def, Rat.neg_mul]
  have n2 : iv ⟨-a.im, a.re, a.den⟩ = rv a := rfl
  exact fTimes_ok.2 ⟨h, vld_fI, hv, by rw [n1, a1, a2]; grind, by rw [n2, a1, a2]; grind⟩
def fTurn (a : Fr) : Fr := ⟨-a.im, a.re, a.den⟩
def jTurn (a : J2) : J2 := ⟨fTurn a.x, fTurn a.y⟩
theorem turn_vld {a : Fr} (h : vld a = true) : vld (fTurn a) = true := (fTimes_ok.1 (times_i h)).2.2.1
theorem jTim_i {a : J2} (h : jv a = true) : jTim a fI = (jTurn a, true) := by
  obtain ⟨h1, h2⟩ := jv_iff.1 h
  unfold jTim j2of
  rw [times_i h1, times_i h2]; rfl
theorem turn_power {a : Fr} (h : vld a = true) : fPower (fTurn a) = fPower a := by
  unfold fPower
  rw [turn_vld h, h]
  show low (-a.im * -a.im + a.re * a.re) 0 (a.den * a.den) = low (a.re * a.re + a.im * a.im) 0 (a.den * a.den)
  rw [Int.neg_mul_neg, Int.add_comm]
theorem turn_times {x y : Fr} (hx : vld x = true) (hy : vld y = true) : fTimes (fTurn x) (fConj (fTurn y)) = fTimes x (fConj y) := by
  unfold fTimes
  rw [turn_vld hx, conj_vld, turn_vld hy, conj_vld, hx, hy]
  show low (-x.im * -y.im - x.re * -y.re) (-x.im * -y.re + x.re * -y.im) (x.den * y.den) = low (x.re * y.re - x.im * -y.im) (x.re * -y.im + x.im * y.re) (x.den * y.den)
  have e1 : -x.im * -y.im - x.re * -y.re = x.re * y.re - x.im * -y.im := by rw [Int.neg_mul_neg, Int.mul_neg, Int.mul_neg]; omega
  have e2 : -x.im * -y.re + x.re * -y.im = x.re * -y.im + x.im * y.re := by rw [Int.neg_mul_neg]; omega
  rw [e1, e2]
theorem sOf_turn {a : J2} {u : M4} (h : sOf a = (u, true)) : sOf (jTurn a) = (u, true) := by
  obtain ⟨h1, h2, h3, hu⟩ := sOf_parts h
  have hx := (fPower_vld h1.1).1
  have hy := (fPower_vld h1.2.1).1
  have e1 : fPower (jTurn a).x = fPower a.x := turn_power hx
  have e2 : fPower (jTurn a).y = fPower a.y := turn_power hy
  have e3 : fTimes (jTurn a).x (fMirror (jTurn a).y).1 = fTimes a.x (fMirror a.y).1 := by
    rw [mirror_y hy, show fMirror (jTurn a).y = (fConj (fTurn a.y), true) from mirror_y (turn_vld hy)]
    exact turn_times hx hy
  have := sOf_make (a := jTurn a) (by rw [e1, e2]; exact ⟨h1.1, h1.2.1, by rw [show fMirror (jTurn a).y = (fConj (fTurn a.y), true) from mirror_y (turn_vld hy)]⟩) (by rw [e1, e2, e3]; exact h2) (by rw [e3]; exact h3)
  rw [this, e1, e2, e3, hu]
theorem sOf_power {a : J2} {u : M4} (h : sOf a = (u, true)) : jPow a = (u.a, true) := by
  obtain ⟨h1, h2, h3, hu⟩ := sOf_parts h
  unfold jPow
  rw [if_pos (by rw [h1.1, h1.2.1]; rfl), hu]
  exact pair_t h2.2.1
theorem sOf_jv {a : J2} {u : M4} (h : sOf a = (u, true)) : jv a = true := by
  obtain ⟨h1, h2, h3, hu⟩ := sOf_parts h
  exact jv_iff.2 ⟨(fPower_vld h1.1).1, (fPower_vld h1.2.1).1⟩
theorem sOf_pure {a : J2} {u : M4} (h : sOf a = (u, true)) (hq : (sSq u).2 = true) (hr : (fTimes u.a u.a).2 = true) : gPure u = true := by
  obtain ⟨h1, h2, h3, hu⟩ := sOf_parts h
  have hy := (fPower_vld h1.2.1).1
  obtain ⟨-, -, px, ix⟩ := fPower_ok.1 (pair_t h1.1)
  obtain ⟨-, -, py, iy⟩ := fPower_ok.1 (pair_t h1.2.1)
  obtain ⟨-, -, vc, rc, ic⟩ := fTimes_ok.1 (pair_t h2.1)
  obtain ⟨-, -, va, ra, -⟩ := fAdd_ok.1 (pair_t h2.2.1)
  obtain ⟨-, -, -, rb, -⟩ := fLess_ok.1 (pair_t h2.2.2)
  have hd := vld_den vc
  obtain ⟨-, r3, -⟩ := (low_ok hd).1 (pair_t h3.1)
  obtain ⟨-, r4, -⟩ := (low_ok hd).1 (pair_t h3.2)
  rw [mirror_y hy] at rc ic r3 r4
  rw [mirror_y hy] at hu
  have two : ∀ n d : Int, ((2 * n : Int) : Rat) / (d : Rat) = 2 * ((n : Rat) / (d : Rat)) := fun n d => by
    rw [Rat.intCast_mul, Rat.div_def, Rat.div_def, Rat.mul_assoc]; rfl
  rw [two] at r3 r4
  have c1 : rv (fConj a.y) = rv a.y := rfl
  have c2 : iv (fConj a.y) = - iv a.y := conj_iv a.y
  have ka : rv u.a = rv a.x * rv a.x + iv a.x * iv a.x + (rv a.y * rv a.y + iv a.y * iv a.y) := by rw [hu]; show rv (fAdd _ _).1 = _; rw [ra, px, py]
  have kb : rv u.b = rv a.x * rv a.x + iv a.x * iv a.x - (rv a.y * rv a.y + iv a.y * iv a.y) := by rw [hu]; show rv (fLess _ _).1 = _; rw [rb, px, py]
  have kc : rv u.c = 2 * (rv a.x * rv a.y + iv a.x * iv a.y) := by
    rw [hu]
    refine r3.trans ?_
    have : ((fTimes a.x (fConj a.y)).1.re : Rat) / ((fTimes a.x (fConj a.y)).1.den : Rat) = rv a.x * rv a.y + iv a.x * iv a.y := by
      refine Eq.trans (show _ = rv (fTimes a.x (fConj a.y)).1 from rfl) ?_
      rw [rc, c1, c2]; grind
    rw [this]
  have kd : rv u.d = 2 * (iv a.x * rv a.y - rv a.x * iv a.y) := by
    rw [hu]
    refine r4.trans ?_
    have : ((fTimes a.x (fConj a.y)).1.im : Rat) / ((fTimes a.x (fConj a.y)).1.den : Rat) = iv a.x * rv a.y - rv a.x * iv a.y := by
      refine Eq.trans (show _ = iv (fTimes a.x (fConj a.y)).1 from rfl) ?_
      rw [ic, c1, c2]; grind
    rw [this]
  refine pure_iff.2 ⟨hq, hr, ?_, ?_⟩
  · rw [ka, kb, kc, kd]; grind
  · rw [ka]
    have q1 := sq_nn (rv a.x)
    have q2 := sq_nn (iv a.x)
    have q3 := sq_nn (rv a.y)
    have q4 := sq_nn (iv a.y)
    grind
end Go.Proofs.Ytlmpbijhidnekaa
