/- Plain facts: mirrored vectors and their four numbers. -/
import Derived.Test.YtmcokdiopcpifaaDoorQ5
import Derived.Test.YtmcokdiopcpifaaDoorY
import Derived.Test.YtmcokdiopcpifaaDoorQR
set_option maxRecDepth 100000
namespace Go.Proofs.YtmcokdiopcpifaaDoor
open Pol

def fConj (a : Fr) : Fr := ⟨a.re, -a.im, a.den⟩
theorem conj_conj (a : Fr) : fConj (fConj a) = a := by unfold fConj; simp
theorem conj_vld (a : Fr) : vld (fConj a) = vld a := vld_mirror a
theorem mirror_y {a : Fr} (h : vld a = true) : fMirror a = (fConj a, true) := by unfold fMirror; rw [if_pos h]; rfl
theorem conj_rv (a : Fr) : rv (fConj a) = rv a := rfl
theorem conj_iv (a : Fr) : iv (fConj a) = - iv a := by
  unfold iv fConj
  show ((-a.im : Int) : Rat) / (a.den : Rat) = _
  rw [Rat.intCast_neg, Rat.div_def, Rat.div_def, Rat.neg_mul]
def jConj (a : J2) : J2 := ⟨fConj a.x, fConj a.y⟩
theorem jMir_y {a : J2} (h : jv a = true) : jMir a = (jConj a, true) := by
  obtain ⟨h1, h2⟩ := jv_iff.1 h
  unfold jMir j2of
  rw [mirror_y h1, mirror_y h2]; rfl
theorem jMir_n {a : J2} (h : jv a = false) : jMir a = (j2z, false) := by
  unfold jMir j2of
  rw [if_neg]
  simp only [Bool.and_eq_true, not_and]
  intro h1 h2
  rw [fMirror_snd] at h1 h2
  rw [jv_iff.2 ⟨h1, h2⟩] at h; cases h
theorem jConj_v {a : J2} (h : jv a = true) : jv (jConj a) = true := by
  obtain ⟨h1, h2⟩ := jv_iff.1 h
  exact jv_iff.2 ⟨(conj_vld _).trans h1, (conj_vld _).trans h2⟩
theorem jConj_2 (a : J2) : jConj (jConj a) = a := by unfold jConj; simp only [conj_conj]
theorem low_conj {re im d : Int} {g : Fr} (hd : 1 ≤ d) (h : low re im d = (g, true)) : low re (-im) d = (fConj g, true) := by
  obtain ⟨h1, h2, h3⟩ := (low_ok hd).1 h
  refine (low_ok hd).2 ⟨(conj_vld g).trans h1, h2, ?_⟩
  rw [conj_iv, h3, Rat.intCast_neg, Rat.div_def, Rat.div_def, Rat.neg_mul]
theorem low_neg {n d : Int} {g : Fr} (hd : 1 ≤ d) (h : low n 0 d = (g, true)) : low (-n) 0 d = (⟨-g.re, g.im, g.den⟩, true) := by
  obtain ⟨h1, h2, h3⟩ := (low_ok hd).1 h
  refine (low_ok hd).2 ⟨(vld_back g).trans h1, ?_, h3⟩
  show ((-g.re : Int) : Rat) / (g.den : Rat) = _
  have h2' : (g.re : Rat) / (g.den : Rat) = (n : Rat) / (d : Rat) := h2
  rw [Rat.intCast_neg, Rat.intCast_neg, Rat.div_def, Rat.div_def, Rat.neg_mul, Rat.neg_mul, ← Rat.div_def, ← Rat.div_def, h2']
theorem low_real {n d : Int} {g : Fr} (hd : 1 ≤ d) (h : low n 0 d = (g, true)) : realB g = true := by
  obtain ⟨h1, h2, h3⟩ := (low_ok hd).1 h
  have h4 : iv g = 0 := by rw [h3, Rat.div_def]; exact Rat.zero_mul _
  unfold realB
  rw [h1, (iv_zero h1).1 h4]; rfl
theorem power_conj (a : Fr) : fPower (fConj a) = fPower a := by
  unfold fPower
  rw [conj_vld]
  show (if vld a = true then low (a.re * a.re + -a.im * -a.im) 0 (a.den * a.den) else (fz, false)) = _
  rw [Int.neg_mul_neg]
theorem power_real {a : Fr} (h : (fPower a).2 = true) : realB (fPower a).1 = true := by
  obtain ⟨h1, h2, h3, h4⟩ := fPower_ok.1 (pair_t h)
  unfold realB
  rw [h2, (iv_zero h2).1 h4]; rfl
theorem times_conj {x y : Fr} (h : (fTimes x (fConj y)).2 = true) : fTimes (fConj x) y = (fConj (fTimes x (fConj y)).1, true) := by
  have hv := fTimes_vld h
  have hx := hv.1
  have hy : vld y = true := (conj_vld y).symm.trans hv.2.1
  have e : fTimes x (fConj y) = ((fTimes x (fConj y)).1, true) := pair_t h
  have e1 : fTimes x (fConj y) = low (x.re * y.re - x.im * -y.im) (x.re * -y.im + x.im * y.re) (x.den * y.den) := by
    unfold fTimes; rw [conj_vld, hx, hy]; rfl
  have e2 : fTimes (fConj x) y = low (x.re * y.re - -x.im * y.im) (x.re * y.im + -x.im * y.re) (x.den * y.den) := by
    unfold fTimes; rw [conj_vld, hx, hy]; rfl
  have hd : 1 ≤ x.den * y.den := den_mul_pos hx hy
  rw [e1] at e
  have := low_conj hd e
  rw [e2]
  have r1 : x.re * y.re - -x.im * y.im = x.re * y.re - x.im * -y.im := by rw [Int.neg_mul, Int.mul_neg]
  have r2 : x.re * y.im + -x.im * y.re = -(x.re * -y.im + x.im * y.re) := by rw [Int.mul_neg, Int.neg_mul]; omega
  rw [r1, r2, this, e1]
theorem sOf_parts {a : J2} {u : M4} (h : sOf a = (u, true)) : ((fPower a.x).2 = true ∧ (fPower a.y).2 = true ∧ (fMirror a.y).2 = true) ∧ ((fTimes a.x (fMirror a.y).1).2 = true ∧ (fAdd (fPower a.x).1 (fPower a.y).1).2 = true ∧ (fLess (fPower a.x).1 (fPower a.y).1).2 = true) ∧ ((low (2 * (fTimes a.x (fMirror a.y).1).1.re) 0 (fTimes a.x (fMirror a.y).1).1.den).2 = true ∧ (low (2 * (fTimes a.x (fMirror a.y).1).1.im) 0 (fTimes a.x (fMirror a.y).1).1.den).2 = true) ∧ u = ⟨(fAdd (fPower a.x).1 (fPower a.y).1).1, (fLess (fPower a.x).1 (fPower a.y).1).1, (low (2 * (fTimes a.x (fMirror a.y).1).1.re) 0 (fTimes a.x (fMirror a.y).1).1.den).1, (low (2 * (fTimes a.x (fMirror a.y).1).1.im) 0 (fTimes a.x (fMirror a.y).1).1.den).1⟩ := by
  unfold sOf at h
  split at h
  · next h1 =>
    split at h
    · next h2 =>
      split at h
      · next h3 =>
        simp only [Bool.and_eq_true] at h1 h2 h3
        exact ⟨⟨h1.1.1, h1.1.2, h1.2⟩, ⟨h2.1.1, h2.1.2, h2.2⟩, h3, (Prod.mk.inj h).1.symm⟩
      · cases h
    · cases h
  · cases h
theorem sOf_make {a : J2} (h1 : (fPower a.x).2 = true ∧ (fPower a.y).2 = true ∧ (fMirror a.y).2 = true) (h2 : (fTimes a.x (fMirror a.y).1).2 = true ∧ (fAdd (fPower a.x).1 (fPower a.y).1).2 = true ∧ (fLess (fPower a.x).1 (fPower a.y).1).2 = true) (h3 : (low (2 * (fTimes a.x (fMirror a.y).1).1.re) 0 (fTimes a.x (fMirror a.y).1).1.den).2 = true ∧ (low (2 * (fTimes a.x (fMirror a.y).1).1.im) 0 (fTimes a.x (fMirror a.y).1).1.den).2 = true) : sOf a = (⟨(fAdd (fPower a.x).1 (fPower a.y).1).1, (fLess (fPower a.x).1 (fPower a.y).1).1, (low (2 * (fTimes a.x (fMirror a.y).1).1.re) 0 (fTimes a.x (fMirror a.y).1).1.den).1, (low (2 * (fTimes a.x (fMirror a.y).1).1.im) 0 (fTimes a.x (fMirror a.y).1).1.den).1⟩, true) := by
  unfold sOf
  rw [if_pos (by simp [h1]), if_pos (by simp [h2]), if_pos (by simp [h3])]
theorem sOf_mir {a : J2} {u : M4} (h : sOf a = (u, true)) : sOf (jConj a) = (setD u ⟨-u.d.re, u.d.im, u.d.den⟩, true) ∧ gMir u = (setD u ⟨-u.d.re, u.d.im, u.d.den⟩, true) := by
  obtain ⟨h1, h2, h3, hu⟩ := sOf_parts h
  have hx := (fPower_vld h1.1).1
  have hy := (fPower_vld h1.2.1).1
  have my := mirror_y hy
  have my2 : fMirror (fConj a.y) = (a.y, true) := by rw [mirror_y ((conj_vld _).trans hy), conj_conj]
  rw [my] at h2 h3 hu
  have ht := times_conj (x := a.x) (y := a.y) h2.1
  have hc := (fTimes_vld h2.1).2.2
  have hd := vld_den hc
  obtain ⟨C, hC⟩ : ∃ C, C = (fTimes a.x (fConj a.y)).1 := ⟨_, rfl⟩
  have hu' : u = ⟨(fAdd (fPower a.x).1 (fPower a.y).1).1, (fLess (fPower a.x).1 (fPower a.y).1).1, (low (2 * C.re) 0 C.den).1, (low (2 * C.im) 0 C.den).1⟩ := by rw [hC]; exact hu
  have k1 : low (2 * C.re) 0 C.den = (u.c, true) := by rw [hu']; exact pair_t (by rw [hC]; exact h3.1)
  have k2 : low (2 * C.im) 0 C.den = (u.d, true) := by rw [hu']; exact pair_t (by rw [hC]; exact h3.2)
  have hd' : 1 ≤ C.den := by rw [hC]; exact hd
  have k3 := low_neg hd' k2
  have hcj : fTimes (fConj a.x) a.y = (fConj C, true) := by rw [hC]; exact ht
  constructor
  · have e1 : fTimes (jConj a).x (fMirror (jConj a).y).1 = (fConj C, true) := by
      show fTimes (fConj a.x) (fMirror (fConj a.y)).1 = _
      rw [my2]; exact hcj
    have ex : fPower (jConj a).x = fPower a.x := power_conj _
    have ey : fPower (jConj a).y = fPower a.y := power_conj _
    have em : 2 * (fConj C).im = -(2 * C.im) := by show 2 * -C.im = _; omega
    have q2 : low (2 * (fConj C).im) 0 (fConj C).den = (⟨-u.d.re, u.d.im, u.d.den⟩, true) := by rw [em]; exact k3
    have q1 : low (2 * (fConj C).re) 0 (fConj C).den = (u.c, true) := k1
    have := sOf_make (a := jConj a) (by rw [ex, ey]; exact ⟨h1.1, h1.2.1, by show (fMirror (fConj a.y)).2 = true; rw [my2]⟩) (by rw [e1, ex, ey]; exact ⟨rfl, h2.2⟩) (by rw [e1]; exact ⟨by rw [q1], by rw [q2]⟩)
    rw [this, e1, ex, ey, q1, q2]
    have hua : u.a = (fAdd (fPower a.x).1 (fPower a.y).1).1 := by rw [hu']
    have hub : u.b = (fLess (fPower a.x).1 (fPower a.y).1).1 := by rw [hu']
    unfold setD
    rw [hua, hub]
  · refine gMir_yes (all4_iff.2 ⟨?_, ?_, low_real hd' k1, low_real hd' k2⟩)
    · rw [hu']
      obtain ⟨-, -, v, -, i⟩ := fAdd_ok.1 (pair_t h2.2.1)
      have px := (fPower_ok.1 (pair_t h1.1)).2.2.2
      have py := (fPower_ok.1 (pair_t h1.2.1)).2.2.2
      have : iv (fAdd (fPower a.x).1 (fPower a.y).1).1 = 0 := by rw [i, px, py]; grind
      unfold realB
      rw [v, (iv_zero v).1 this]; rfl
    · rw [hu']
      obtain ⟨-, -, v, -, i⟩ := fLess_ok.1 (pair_t h2.2.2)
      have px := (fPower_ok.1 (pair_t h1.1)).2.2.2
      have py := (fPower_ok.1 (pair_t h1.2.1)).2.2.2
      have : iv (fLess (fPower a.x).1 (fPower a.y).1).1 = 0 := by rw [i, px, py]; grind
      unfold realB
      rw [v, (iv_zero v).1 this]; rfl
theorem pow_law {a : J2} {o : Fr} (h : jPow a = (o, true)) : jIn a a = (o, true) ∧ 0 ≤ o.re ∧ o.im = 0 := by
  have h' := h
  unfold jPow at h
  split at h
  · next hh =>
    simp only [Bool.and_eq_true] at hh
    have hx := (fPower_vld hh.1).1
    have hy := (fPower_vld hh.2).1
    have e1 : fTimes a.x (fMirror a.x).1 = fPower a.x := by have := fPow2_eq a.x; unfold fPow2 at this; rwa [if_pos (by rw [fMirror_snd]; exact hx)] at this
    have e2 : fTimes a.y (fMirror a.y).1 = fPower a.y := by have := fPow2_eq a.y; unfold fPow2 at this; rwa [if_pos (by rw [fMirror_snd]; exact hy)] at this
    refine ⟨?_, ?_⟩
    · unfold jIn fIn
      rw [if_pos (by rw [fMirror_snd, fMirror_snd, hx, hy]; rfl), e1, e2, if_pos (by rw [hh.1, hh.2]; rfl)]
      exact h
    · obtain ⟨-, -, v, r, i⟩ := fAdd_ok.1 h
      obtain ⟨-, -, r1, i1⟩ := fPower_ok.1 (pair_t hh.1)
      obtain ⟨-, -, r2, i2⟩ := fPower_ok.1 (pair_t hh.2)
      have q1 := sq_nn (rv a.x)
      have q2 := sq_nn (iv a.x)
      have q3 := sq_nn (rv a.y)
      have q4 := sq_nn (iv a.y)
      refine ⟨(rv_nonneg v).1 ?_, (iv_zero v).1 ?_⟩
      · rw [r, r1, r2]; grind
      · rw [i, i1, i2]; grind
  · cases h
theorem jPow_no {a : J2} (h : (jPow a).2 = false) : jPow a = (fz, false) := by
  unfold jPow at h ⊢
  split
  · next hh => rw [if_pos hh] at h; exact fAdd_no _ _ h
  · rfl
end Go.Proofs.YtmcokdiopcpifaaDoor
