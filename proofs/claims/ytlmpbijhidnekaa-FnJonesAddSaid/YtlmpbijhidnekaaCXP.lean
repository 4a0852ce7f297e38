/- Contracts and plain facts: what lies across a vector. -/
import Derived.Test.YtlmpbijhidnekaaQM
import Derived.Test.YtlmpbijhidnekaaJ
namespace Go.Proofs.Ytlmpbijhidnekaa
open Go.RowKit Pol

def cX (a : Fr) : Fr := ⟨-a.re, a.im, a.den⟩
def jCrV (a : J2) : J2 := ⟨cX a.y, fConj a.x⟩
def jCr (a : J2) : J2 × Bool := if jv a = true then (jCrV a, true) else (j2z, false)
def jCrS (a : J2) : J2 × Bool := if ((fMirror a.x).2 && (fMirror a.y).2) = true then (⟨⟨-(fMirror a.y).1.re, -(fMirror a.y).1.im, (fMirror a.y).1.den⟩, (fMirror a.x).1⟩, true) else (j2z, false)
theorem jCrS_eq (a : J2) : jCrS a = jCr a := by
  unfold jCrS jCr
  rw [fMirror_snd, fMirror_snd]
  show (if jv a = true then _ else _) = _
  split
  · next h =>
    obtain ⟨h1, h2⟩ := jv_iff.1 h
    rw [mirror_y h1, mirror_y h2]
    unfold jCrV cX fConj
    simp
  · rfl
theorem cX_vld (a : Fr) : vld (cX a) = vld a := vld_back a
theorem jCr_v {a : J2} (h : jv a = true) : jv (jCrV a) = true := by
  obtain ⟨h1, h2⟩ := jv_iff.1 h
  exact jv_iff.2 ⟨(cX_vld _).trans h2, (conj_vld _).trans h1⟩
theorem cX_power (a : Fr) : fPower (cX a) = fPower a := by
  unfold fPower
  rw [cX_vld]
  show (if vld a = true then low (-a.re * -a.re + a.im * a.im) 0 (a.den * a.den) else (fz, false)) = _
  rw [Int.neg_mul_neg]
theorem fAdd_comm' (a b : Fr) : fAdd a b = fAdd b a := by
  unfold fAdd
  rw [Bool.and_comm (vld a), Int.add_comm (a.re * b.den), Int.add_comm (a.im * b.den), Int.mul_comm a.den b.den]
theorem jPow_cr (a : J2) : jPow (jCrV a) = jPow a := by
  unfold jPow
  show (if ((fPower (cX a.y)).2 && (fPower (fConj a.x)).2) = true then fAdd (fPower (cX a.y)).1 (fPower (fConj a.x)).1 else (fz, false)) = _
  rw [cX_power, power_conj, Bool.and_comm, fAdd_comm']
def jNeg (a : J2) : J2 := ⟨fNeg a.x, fNeg a.y⟩
theorem jCr_2 (a : J2) : jCrV (jCrV a) = jNeg a := by
  unfold jCrV cX fConj jNeg fNeg; simp
def fM1 : Fr := ⟨-1, 0, 1⟩
theorem times_m1 {a : Fr} (h : vld a = true) : fTimes a fM1 = (fNeg a, true) := by
  have v1 : vld fM1 = true := by decide
  have a1 : rv fM1 = -1 := by show ((-1 : Int) : Rat) / ((1 : Int) : Rat) = -1; grind
  have a2 : iv fM1 = 0 := by show ((0 : Int) : Rat) / ((1 : Int) : Rat) = 0; grind
  have n1 : rv (fNeg a) = - rv a := by
    show ((-a.re : Int) : Rat) / (a.den : Rat) = -((a.re : Rat) / (a.den : Rat))
    rw [Rat.intCast_neg, Rat.div_def, Rat.div_def, Rat.neg_mul]
  have n2 : iv (fNeg a) = - iv a := by
    show ((-a.im : Int) : Rat) / (a.den : Rat) = -((a.im : Rat) / (a.den : Rat))
    rw [Rat.intCast_neg, Rat.div_def, Rat.div_def, Rat.neg_mul]
  exact fTimes_ok.2 ⟨h, v1, (vld_neg a).trans h, by rw [n1, a1, a2]; grind, by rw [n2, a1, a2]; grind⟩
theorem jTim_m1 {a : J2} (h : jv a = true) : jTim a fM1 = (jNeg a, true) := by
  obtain ⟨h1, h2⟩ := jv_iff.1 h
  unfold jTim j2of
  rw [times_m1 h1, times_m1 h2]; rfl
theorem jIn_no {a b : J2} (h : (jIn a b).2 = false) : jIn a b = (fz, false) := by
  unfold jIn at h ⊢
  split
  · next hh => rw [if_pos hh] at h; exact fIn_no _ _ _ _ h
  · rfl
theorem jIn_cr {a : J2} {X : Fr} (h : jIn a (jCrV a) = (X, true)) : X = f0 := by
  unfold jIn at h
  split at h
  · next hh =>
    simp only [Bool.and_eq_true, fMirror_snd] at hh
    rw [mirror_y hh.1, mirror_y hh.2] at h
    unfold fIn at h
    split at h
    · next h2 =>
      simp only [Bool.and_eq_true] at h2
      obtain ⟨-, -, -, r1, i1⟩ := fTimes_ok.1 (pair_t h2.1)
      obtain ⟨-, -, -, r2, i2⟩ := fTimes_ok.1 (pair_t h2.2)
      obtain ⟨-, -, v, r, i⟩ := fAdd_ok.1 h
      have n1 : rv (fConj (jCrV a).x) = - rv a.y := by
        show ((-a.y.re : Int) : Rat) / (a.y.den : Rat) = -((a.y.re : Rat) / (a.y.den : Rat))
        rw [Rat.intCast_neg, Rat.div_def, Rat.div_def, Rat.neg_mul]
      have n2 : iv (fConj (jCrV a).x) = - iv a.y := by rw [conj_iv]; rfl
      have n3 : fConj (jCrV a).y = a.x := conj_conj a.x
      refine val_inj v vld_f0 ?_ ?_
      · rw [r, r1, r2, rv_f0, n1, n2, n3]; grind
      · rw [i, i1, i2, iv_f0, n1, n2, n3]; grind
    · cases h
  · cases h
end Go.Proofs.Ytlmpbijhidnekaa
