/- Plain facts: what the four numbers of a vector are. No program is in sight. -/
import Derived.Test.YtmcokdiopcpifaaDoorQ2
set_option maxRecDepth 100000
namespace Pol
def f2 : Fr := ⟨2, 0, 1⟩
def fReal (a : Fr) : Fr × Bool := if vld a = true then low a.re 0 a.den else (fz, false)
def fImag (a : Fr) : Fr × Bool := if vld a = true then low a.im 0 a.den else (fz, false)
theorem fReal_no (a : Fr) : (fReal a).2 = false → fReal a = (fz, false) := by
  unfold fReal; split
  · exact low_no _ _ _
  · simp
theorem fImag_no (a : Fr) : (fImag a).2 = false → fImag a = (fz, false) := by
  unfold fImag; split
  · exact low_no _ _ _
  · simp
theorem pair_eq {p q : Fr × Bool} (hp : p.2 = false → p = (fz, false)) (hq : q.2 = false → q = (fz, false)) (h : ∀ f, p = (f, true) ↔ q = (f, true)) : p = q := by
  cases h1 : p.2
  · cases h2 : q.2
    · rw [hp h1, hq h2]
    · have := (h q.1).2 (pair_t h2)
      rw [this] at h1; cases h1
  · exact ((h p.1).1 (pair_t h1) ▸ pair_t h1)
theorem low_small {n den : Int} (h0 : -2000000000 ≤ n) (h1 : n ≤ 2000000000) (d0 : 1 ≤ den) (d1 : den ≤ 2000000000) : (low n 0 den).2 = true := by
  unfold low
  have hb : lowB n 0 den = true := by
    rw [lowB_vld _ _ _ d0, vld_iff]
    obtain ⟨e1, e2, e3⟩ := cut_mul n 0 den
    have hg := g3_pos n 0 den d0
    have hc := cut_den_pos n 0 den d0
    have hx := cut_g3 n 0 den d0
    refine ⟨?_, ?_, ⟨hc, ?_⟩, hx⟩
    · have : (cut n 0 den).re.natAbs ≤ n.natAbs := by
        have := congrArg Int.natAbs e1
        rw [Int.natAbs_mul] at this
        have h3 : 1 ≤ (g3 n 0 den).natAbs := by omega
        calc (cut n 0 den).re.natAbs = (cut n 0 den).re.natAbs * 1 := by omega
          _ ≤ (cut n 0 den).re.natAbs * (g3 n 0 den).natAbs := Nat.mul_le_mul (Nat.le_refl _) h3
          _ = n.natAbs := this
      omega
    · have : (cut n 0 den).im = 0 := by
        rcases Int.mul_eq_zero.1 e2 with h | h
        · exact h
        · omega
      omega
    · have : (cut n 0 den).den.natAbs ≤ den.natAbs := by
        have := congrArg Int.natAbs e3
        rw [Int.natAbs_mul] at this
        have h3 : 1 ≤ (g3 n 0 den).natAbs := by omega
        calc (cut n 0 den).den.natAbs = (cut n 0 den).den.natAbs * 1 := by omega
          _ ≤ (cut n 0 den).den.natAbs * (g3 n 0 den).natAbs := Nat.mul_le_mul (Nat.le_refl _) h3
          _ = den.natAbs := this
      omega
  rw [if_pos hb]
theorem vld_f2 : vld f2 = true := by decide
theorem twice_low {n den : Int} (h0 : -2000000000 ≤ n) (h1 : n ≤ 2000000000) (d0 : 1 ≤ den) (d1 : den ≤ 2000000000) : fTimes f2 (low n 0 den).1 = low (2 * n) 0 den := by
  have hl := low_small h0 h1 d0 d1
  obtain ⟨hv, hr, hi⟩ := (low_ok d0).1 (pair_t hl)
  refine pair_eq (fTimes_no _ _) (low_no _ _ _) (fun f => ?_)
  rw [fTimes_ok, low_ok d0, hr, hi]
  have a1 : rv f2 = 2 := by show ((2 : Int) : Rat) / ((1 : Int) : Rat) = 2; grind
  have a2 : iv f2 = 0 := by show ((0 : Int) : Rat) / ((1 : Int) : Rat) = 0; grind
  rw [a1, a2]
  have e1 : (2 : Rat) * ((n : Rat) / (den : Rat)) - 0 * (((0 : Int) : Rat) / (den : Rat)) = ((2 * n : Int) : Rat) / (den : Rat) := by
    rw [Rat.zero_mul, Rat.sub_eq_add_neg, Rat.neg_zero, Rat.add_zero, Rat.intCast_mul, Rat.div_def, Rat.div_def, Rat.mul_assoc]; rfl
  have e2 : (2 : Rat) * (((0 : Int) : Rat) / (den : Rat)) + 0 * ((n : Rat) / (den : Rat)) = ((0 : Int) : Rat) / (den : Rat) := by
    have z : ((0 : Int) : Rat) / (den : Rat) = 0 := by rw [Rat.div_def]; exact Rat.zero_mul _
    rw [z, Rat.zero_mul, Rat.mul_zero, Rat.add_zero]
  rw [e1, e2]
  exact ⟨fun h => ⟨h.2.2.1, h.2.2.2.1, h.2.2.2.2⟩, fun h => ⟨vld_f2, hv, h⟩⟩
theorem fReal_y {a : Fr} (h : vld a = true) : (fReal a).2 = true ∧ fTimes f2 (fReal a).1 = low (2 * a.re) 0 a.den := by
  obtain ⟨h1, h2, h3, -⟩ := (vld_iff a).1 h
  unfold fReal
  rw [if_pos h]
  exact ⟨low_small h1.1 h1.2 h3.1 h3.2, twice_low h1.1 h1.2 h3.1 h3.2⟩
theorem fImag_y {a : Fr} (h : vld a = true) : (fImag a).2 = true ∧ fTimes f2 (fImag a).1 = low (2 * a.im) 0 a.den := by
  obtain ⟨h1, h2, h3, -⟩ := (vld_iff a).1 h
  unfold fImag
  rw [if_pos h]
  exact ⟨low_small h2.1 h2.2 h3.1 h3.2, twice_low h2.1 h2.2 h3.1 h3.2⟩
/-- The four numbers, the reference's way. -/
def sOf (a : J2) : M4 × Bool :=
  if ((fPower a.x).2 && (fPower a.y).2 && (fMirror a.y).2) = true then
    if ((fTimes a.x (fMirror a.y).1).2 && (fAdd (fPower a.x).1 (fPower a.y).1).2 && (fLess (fPower a.x).1 (fPower a.y).1).2) = true then
      if ((low (2 * (fTimes a.x (fMirror a.y).1).1.re) 0 (fTimes a.x (fMirror a.y).1).1.den).2 && (low (2 * (fTimes a.x (fMirror a.y).1).1.im) 0 (fTimes a.x (fMirror a.y).1).1.den).2) = true then
        (⟨(fAdd (fPower a.x).1 (fPower a.y).1).1, (fLess (fPower a.x).1 (fPower a.y).1).1, (low (2 * (fTimes a.x (fMirror a.y).1).1.re) 0 (fTimes a.x (fMirror a.y).1).1.den).1, (low (2 * (fTimes a.x (fMirror a.y).1).1.im) 0 (fTimes a.x (fMirror a.y).1).1.den).1⟩, true)
      else (m4z, false)
    else (m4z, false)
  else (m4z, false)
def sOfC (a : J2) : Fr := (fTimes a.x (fMirror a.y).1).1
def sOfE4 (a : J2) : Bool := (((((false || !jv a) || !(fPower a.x).2) || !(fPower a.y).2) || !(fMirror a.y).2) || !(fTimes a.x (fMirror a.y).1).2)
/-- The same, the program's way. -/
def sOfI (a : J2) : M4 × Bool :=
  gt m4z ((((((sOfE4 a || !(fAdd (fPower a.x).1 (fPower a.y).1).2) || !(fLess (fPower a.x).1 (fPower a.y).1).2) || !(fReal (sOfC a)).2) || !(fTimes f2 (fReal (sOfC a)).1).2) || !(fImag (sOfC a)).2) || !(fTimes f2 (fImag (sOfC a)).1).2)
    ⟨(fAdd (fPower a.x).1 (fPower a.y).1).1, (fLess (fPower a.x).1 (fPower a.y).1).1, (fTimes f2 (fReal (sOfC a)).1).1, (fTimes f2 (fImag (sOfC a)).1).1⟩
theorem sOfI_eq (a : J2) : sOfI a = sOf a := by
  unfold sOfI sOf gt sOfE4
  cases h1 : (fPower a.x).2
  · simp
  cases h2 : (fPower a.y).2
  · simp
  cases h3 : (fMirror a.y).2
  · simp
  have hv : jv a = true := jv_iff.2 ⟨(fPower_vld h1).1, (fPower_vld h2).1⟩
  cases h4 : (fTimes a.x (fMirror a.y).1).2
  · simp
  have hc := (fTimes_vld h4).2.2
  have hr := fReal_y (a := sOfC a) hc
  have hi := fImag_y (a := sOfC a) hc
  rw [hr.1, hi.1, hr.2, hi.2, hv]
  show _ = _
  cases h5 : (fAdd (fPower a.x).1 (fPower a.y).1).2
  · simp
  cases h6 : (fLess (fPower a.x).1 (fPower a.y).1).2
  · simp
  unfold sOfC
  cases h7 : (low (2 * (fTimes a.x (fMirror a.y).1).1.re) 0 (fTimes a.x (fMirror a.y).1).1.den).2
  · simp
  cases h8 : (low (2 * (fTimes a.x (fMirror a.y).1).1.im) 0 (fTimes a.x (fMirror a.y).1).1.den).2
  · simp
  simp
theorem fTimes_rng {c : Fr} (h : vld c = true) : (-1000000000000000000 ≤ 2 * c.re ∧ 2 * c.re ≤ 1000000000000000000) ∧ (-1000000000000000000 ≤ 2 * c.im ∧ 2 * c.im ≤ 1000000000000000000) ∧ 1 ≤ c.den ∧ c.den ≤ 1000000000000000000 := by
  obtain ⟨h1, h2, h3, -⟩ := (vld_iff c).1 h
  omega
end Pol
