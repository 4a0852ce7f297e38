/- Plain facts: lossless matrices, their determinants, rotators. -/
import Derived.Test.YtcpdapfcbnhgaaaDoorQT2
import Derived.Test.YtcpdapfcbnhgaaaDoorML
namespace Go.Proofs.YtcpdapfcbnhgaaaDoor
open Pol

theorem uni {a1 a2 b1 b2 c1 c2 d1 d2 : Rat} (h1 : a1 * a1 + a2 * a2 + b1 * b1 + b2 * b2 = 1) (h2 : c1 * c1 + c2 * c2 + d1 * d1 + d2 * d2 = 1) (h3 : a1 * c1 + a2 * c2 + b1 * d1 + b2 * d2 = 0) (h4 : a2 * c1 - a1 * c2 + b2 * d1 - b1 * d2 = 0) :
    (a1 * d1 - a2 * d2 - (b1 * c1 - b2 * c2)) * (a1 * d1 - a2 * d2 - (b1 * c1 - b2 * c2)) + (a1 * d2 + a2 * d1 - (b1 * c2 + b2 * c1)) * (a1 * d2 + a2 * d1 - (b1 * c2 + b2 * c1)) = 1 ∧
    a1 * a1 + a2 * a2 + c1 * c1 + c2 * c2 = 1 ∧ b1 * b1 + b2 * b2 + d1 * d1 + d2 * d2 = 1 ∧ a1 * b1 + a2 * b2 + c1 * d1 + c2 * d2 = 0 ∧ a1 * b2 - a2 * b1 + c1 * d2 - c2 * d1 = 0 := by
  obtain ⟨D1, hD1⟩ : ∃ D1, D1 = a1 * d1 - a2 * d2 - (b1 * c1 - b2 * c2) := ⟨_, rfl⟩
  obtain ⟨D2, hD2⟩ : ∃ D2, D2 = a1 * d2 + a2 * d1 - (b1 * c2 + b2 * c1) := ⟨_, rfl⟩
  have hN : D1 * D1 + D2 * D2 = 1 := by
    have e : D1 * D1 + D2 * D2 = (a1 * a1 + a2 * a2 + b1 * b1 + b2 * b2) * (c1 * c1 + c2 * c2 + d1 * d1 + d2 * d2) - (a1 * c1 + a2 * c2 + b1 * d1 + b2 * d2) * (a1 * c1 + a2 * c2 + b1 * d1 + b2 * d2) - (a2 * c1 - a1 * c2 + b2 * d1 - b1 * d2) * (a2 * c1 - a1 * c2 + b2 * d1 - b1 * d2) := by
      rw [hD1, hD2]; grind
    rw [e, h1, h2, h3, h4]; grind
  have e1 : a1 * D1 + a2 * D2 = d1 := by
    have e : a1 * D1 + a2 * D2 - d1 = (a1 * a1 + a2 * a2 + b1 * b1 + b2 * b2 - 1) * d1 - (b1 * (a1 * c1 + a2 * c2 + b1 * d1 + b2 * d2) + b2 * (a2 * c1 - a1 * c2 + b2 * d1 - b1 * d2)) := by
      rw [hD1, hD2]; grind
    rw [h1, h3, h4] at e; grind
  have e2 : a1 * D2 - a2 * D1 = d2 := by
    have e : a1 * D2 - a2 * D1 - d2 = (a1 * a1 + a2 * a2 + b1 * b1 + b2 * b2 - 1) * d2 - (b2 * (a1 * c1 + a2 * c2 + b1 * d1 + b2 * d2) - b1 * (a2 * c1 - a1 * c2 + b2 * d1 - b1 * d2)) := by
      rw [hD1, hD2]; grind
    rw [h1, h3, h4] at e; grind
  have e3 : b1 * D1 + b2 * D2 = - c1 := by
    have e : b1 * D1 + b2 * D2 + c1 = (1 - (a1 * a1 + a2 * a2 + b1 * b1 + b2 * b2)) * c1 + (a1 * (a1 * c1 + a2 * c2 + b1 * d1 + b2 * d2) + a2 * (a2 * c1 - a1 * c2 + b2 * d1 - b1 * d2)) := by
      rw [hD1, hD2]; grind
    rw [h1, h3, h4] at e; grind
  have e4 : b1 * D2 - b2 * D1 = - c2 := by
    have e : b1 * D2 - b2 * D1 + c2 = (1 - (a1 * a1 + a2 * a2 + b1 * b1 + b2 * b2)) * c2 + (a2 * (a1 * c1 + a2 * c2 + b1 * d1 + b2 * d2) - a1 * (a2 * c1 - a1 * c2 + b2 * d1 - b1 * d2)) := by
      rw [hD1, hD2]; grind
    rw [h1, h3, h4] at e; grind
  have f1 : d1 * d1 + d2 * d2 = a1 * a1 + a2 * a2 := by
    have e : (a1 * D1 + a2 * D2) * (a1 * D1 + a2 * D2) + (a1 * D2 - a2 * D1) * (a1 * D2 - a2 * D1) = (a1 * a1 + a2 * a2) * (D1 * D1 + D2 * D2) := by grind
    rw [e1, e2, hN] at e; grind
  have f2 : c1 * c1 + c2 * c2 = b1 * b1 + b2 * b2 := by grind
  refine ⟨?_, ?_, ?_, ?_, ?_⟩
  · rw [← hD1, ← hD2]; exact hN
  · grind
  · grind
  · have e : (b1 * D1 + b2 * D2) * (a1 * D1 + a2 * D2) + (b1 * D2 - b2 * D1) * (a1 * D2 - a2 * D1) = (a1 * b1 + a2 * b2) * (D1 * D1 + D2 * D2) := by grind
    rw [e1, e2, e3, e4, hN] at e; grind
  · have e : (b1 * D1 + b2 * D2) * (a1 * D2 - a2 * D1) - (b1 * D2 - b2 * D1) * (a1 * D1 + a2 * D2) = (a1 * b2 - a2 * b1) * (D1 * D1 + D2 * D2) := by grind
    rw [e1, e2, e3, e4, hN] at e; grind
theorem mSame_one : mSame = mOne := rfl
theorem gLos_parts {a : M4} (h : gLos a = true) : all4 vld a = true ∧ mTm a (mC a) = (mOne, true) := by
  unfold gLos at h
  simp only [Bool.and_eq_true, m4B_iff] at h
  obtain ⟨h1, h2, h3⟩ := h
  refine ⟨h1, ?_⟩
  rw [← mSame_one, ← h3]; exact pair_t h2
theorem gLos_make {a : M4} (h : all4 vld a = true) (k : mTm a (mC a) = (mOne, true)) : gLos a = true := by
  unfold gLos
  rw [h, k]
  simp only [Bool.true_and, m4B_iff]
  rfl
theorem one_a : rv mOne.a = 1 := r1
theorem one_b : rv mOne.b = 0 := rv_f0
theorem one_bi : iv mOne.b = 0 := iv_f0
theorem one_d : rv mOne.d = 1 := r1
/-- What a lossless matrix's parts hold. -/
theorem gLos_val {a : M4} (h : gLos a = true) :
    (rv a.a * rv a.a + iv a.a * iv a.a + rv a.b * rv a.b + iv a.b * iv a.b = 1) ∧ (rv a.c * rv a.c + iv a.c * iv a.c + rv a.d * rv a.d + iv a.d * iv a.d = 1) ∧ (rv a.a * rv a.c + iv a.a * iv a.c + rv a.b * rv a.d + iv a.b * iv a.d = 0) ∧ (iv a.a * rv a.c - rv a.a * iv a.c + iv a.b * rv a.d - rv a.b * iv a.d = 0) := by
  obtain ⟨-, -, ka, kb, -, kd⟩ := mTm_parts (gLos_parts h).2
  obtain ⟨-, p1, -⟩ := fIn_ok ka
  obtain ⟨-, p2, p3⟩ := fIn_ok kb
  obtain ⟨-, p4, -⟩ := fIn_ok kd
  rw [one_a] at p1
  rw [one_b] at p2
  rw [one_bi] at p3
  rw [one_d] at p4
  simp only [mC, conj_rv, conj_iv] at p1 p2 p3 p4
  refine ⟨?_, ?_, ?_, ?_⟩ <;> grind
theorem law_lossless {a X : M4} (h : gLos a = true) (k : mTm (mC a) a = (X, true)) : X = mOne ∧ gLos (mC a) = true := by
  obtain ⟨h1, h2, h3, h4⟩ := gLos_val h
  obtain ⟨-, g1, g2, g3, g4⟩ := uni h1 h2 h3 h4
  obtain ⟨-, -, ka, kb, kc, kd⟩ := mTm_parts k
  obtain ⟨v1', q1, u1⟩ := fIn_ok ka
  obtain ⟨v2', q2, u2⟩ := fIn_ok kb
  obtain ⟨v3', q3, u3⟩ := fIn_ok kc
  obtain ⟨v4', q4, u4⟩ := fIn_ok kd
  simp only [mC, conj_rv, conj_iv] at q1 q2 q3 q4 u1 u2 u3 u4
  have e : X = mOne := by
    refine m4_ext (val_inj v1' v1 ?_ ?_) (val_inj v2' vld_f0 ?_ ?_) (val_inj v3' vld_f0 ?_ ?_) (val_inj v4' v1 ?_ ?_)
    · show _ = rv Pol.f1; rw [r1]; grind
    · show _ = iv Pol.f1; rw [i1]; grind
    · show _ = rv f0; rw [rv_f0]; grind
    · show _ = iv f0; rw [iv_f0]; grind
    · show _ = rv f0; rw [rv_f0]; grind
    · show _ = iv f0; rw [iv_f0]; grind
    · show _ = rv Pol.f1; rw [r1]; grind
    · show _ = iv Pol.f1; rw [i1]; grind
  refine ⟨e, gLos_make (mC_v (gLos_parts h).1) ?_⟩
  rw [mC_2, k, e]
theorem law_ldet {a : M4} {d n : Fr} (h : gLos a = true) (hd : gDet a = (d, true)) (hn : fPower d = (n, true)) : n = Pol.f1 := by
  obtain ⟨h1, h2, h3, h4⟩ := gLos_val h
  obtain ⟨g0, -⟩ := uni h1 h2 h3 h4
  obtain ⟨-, -, r, i⟩ := gDet_ok hd
  obtain ⟨-, v, r', i'⟩ := fPower_ok.1 hn
  refine val_inj v v1 ?_ ?_
  · rw [r', r, i, r1]; exact g0
  · rw [i', i1]
/- Rotators. -/
theorem tim_small {x y : Fr} (vx : vld x = true) (vy : vld y = true) (ix : x.im = 0) (iy : y.im = 0) (x0 : -40000 ≤ x.re) (x1 : x.re ≤ 40000) (y0 : -40000 ≤ y.re) (y1 : y.re ≤ 40000) (xd : x.den ≤ 40000) (yd : y.den ≤ 40000) : ∃ z, fTimes x y = (z, true) ∧ vld z = true ∧ rv z = rv x * rv y ∧ iv z = 0 := by
  have hx := vld_den vx
  have hy := vld_den vy
  have b1 : (x.re * y.re).natAbs ≤ 40000 * 40000 := by rw [Int.natAbs_mul]; exact Nat.mul_le_mul (by omega) (by omega)
  have b2 : (x.den * y.den).natAbs ≤ 40000 * 40000 := by rw [Int.natAbs_mul]; exact Nat.mul_le_mul (by omega) (by omega)
  have hd : 1 ≤ x.den * y.den := den_mul_pos vx vy
  obtain ⟨e, v, r, i⟩ := low_small (re := x.re * y.re) (den := x.den * y.den) (by omega) (by omega) hd (by omega)
  have et : fTimes x y = low (x.re * y.re) 0 (x.den * y.den) := by
    unfold fTimes
    rw [vx, vy, ix, iy]
    simp
  have hok : fTimes x y = ((fTimes x y).1, true) := by rw [et]; exact e
  obtain ⟨-, -, vz, rz, iz⟩ := fTimes_ok.1 hok
  have jx : iv x = 0 := (iv_zero vx).2 ix
  have jy : iv y = 0 := (iv_zero vy).2 iy
  exact ⟨_, hok, vz, by rw [rz, jx, jy]; grind, by rw [iz, jx, jy]; grind⟩
theorem low_bd2 {re den b : Int} (h1 : -b ≤ re) (h2 : re ≤ b) (h3 : 1 ≤ den) (h4 : den ≤ b) (hb : b ≤ 2000000000) : -b ≤ (low re 0 den).1.re ∧ (low re 0 den).1.re ≤ b ∧ (low re 0 den).1.den ≤ b ∧ (low re 0 den).1.im = 0 := by
  obtain ⟨e, v, -, -⟩ := low_small (re := re) (den := den) (by omega) (by omega) h3 (by omega)
  have hB : lowB re 0 den = true := by
    cases hh : lowB re 0 den
    · rw [show low re 0 den = (fz, false) by unfold low; rw [if_neg (by rw [hh]; simp)]] at e
      cases e
    · rfl
  have e2 : low re 0 den = (cut re 0 den, true) := by unfold low; rw [if_pos hB]
  rw [e2]
  have a1 := tdiv_small (g := g3 re 0 den) h1 h2
  have a3 := tdiv_small (g := g3 re 0 den) (a := den) (b := b) (by omega) h4
  refine ⟨a1.1, a1.2, a3.2, ?_⟩
  show Int.tdiv 0 (g3 re 0 den) = 0
  exact Int.zero_tdiv _
structure Dir (p q : Int) : Prop where
  vc : vld (dC p q) = true
  vs : vld (dS p q) = true
  ic : (dC p q).im = 0
  is : (dS p q).im = 0
  c0 : -40000 ≤ (dC p q).re
  c1 : (dC p q).re ≤ 40000
  s0 : -40000 ≤ (dS p q).re
  s1 : (dS p q).re ≤ 40000
  cd : (dC p q).den ≤ 40000
  sd : (dS p q).den ≤ 40000
  one : rv (dC p q) * rv (dC p q) + rv (dS p q) * rv (dS p q) = 1
theorem dir_all {p q : Int} (h : dirB p q = true) : Dir p q := by
  obtain ⟨⟨a, b⟩, ⟨c, d⟩, e⟩ := dir_bd h
  have s1 := sq_bd a b
  have s2 := sq_bd c d
  have s3 := pr_bd a b c d
  obtain ⟨v1, v2, -, -, -, -, h1⟩ := dir_ok h
  obtain ⟨k1, k2, k3, k4⟩ := low_bd2 (re := p * p - q * q) (den := p * p + q * q) (b := 40000) (by omega) (by omega) e (by omega) (by omega)
  obtain ⟨l1, l2, l3, l4⟩ := low_bd2 (re := 2 * p * q) (den := p * p + q * q) (b := 40000) (by omega) (by omega) e (by omega) (by omega)
  exact ⟨v1, v2, k4, l4, k1, k2, l1, l2, k3, l3, h1⟩
theorem neg_rv (a : Fr) : rv ⟨-a.re, a.im, a.den⟩ = - rv a := by
  show ((-a.re : Int) : Rat) / (a.den : Rat) = -((a.re : Rat) / (a.den : Rat))
  rw [Rat.intCast_neg, Rat.div_def, Rat.div_def, Rat.neg_mul]
theorem dirB_neg {p q : Int} (h : dirB p q = true) : dirB p (-q) = true := by
  obtain ⟨⟨a, b⟩, ⟨c, d⟩, e⟩ := dir_bd h
  have hn : ¬ (p = 0 ∧ q = 0) := fun ⟨h1, h2⟩ => by subst h1; subst h2; omega
  unfold dirB wi
  simp only [Bool.and_eq_true, decide_eq_true_eq, Bool.not_eq_true', Bool.and_eq_false_iff, decide_eq_false_iff_not]
  refine ⟨⟨⟨a, b⟩, by omega, by omega⟩, ?_⟩
  rcases Classical.em (p = 0) with h1 | h1
  · exact Or.inr (by omega)
  · exact Or.inl h1
theorem dC_neg (p q : Int) : dC p (-q) = dC p q := by unfold dC; rw [Int.neg_mul_neg]
theorem dS_neg {p q : Int} (h : dirB p q = true) : dS p (-q) = ⟨-(dS p q).re, (dS p q).im, (dS p q).den⟩ := by
  obtain ⟨-, v2, -, i2, -, r2, -⟩ := dir_ok h
  obtain ⟨-, w2, -, j2, -, s2, -⟩ := dir_ok (dirB_neg h)
  refine val_inj w2 ((vld_back _).trans v2) ?_ ?_
  · rw [s2, neg_rv, r2, Int.neg_mul_neg, Int.mul_neg, Rat.intCast_neg, Rat.div_def, Rat.div_def, Rat.neg_mul]
  · rw [j2]; exact i2.symm
/-- A rotator, its opposite, its determinant. -/
theorem law_rot {p q : Int} (h : dirB p q = true) : ∃ o b, gRot p q = (o, true) ∧ gRot p (-q) = (b, true) ∧ mTm o b = (mOne, true) ∧ gDet o = (Pol.f1, true) ∧ gLos o = true := by
  have hb := dirB_neg h
  have D := dir_all h
  have hS := dS_neg h
  have hC := dC_neg p q
  obtain ⟨c, hc⟩ : ∃ c, c = dC p q := ⟨_, rfl⟩
  obtain ⟨s, hs⟩ : ∃ s, s = dS p q := ⟨_, rfl⟩
  obtain ⟨t, ht⟩ : ∃ t : Fr, t = ⟨-s.re, s.im, s.den⟩ := ⟨_, rfl⟩
  have tt : (⟨-t.re, t.im, t.den⟩ : Fr) = s := by rw [ht]; simp
  have ho : gRot p q = (⟨c, t, s, c⟩, true) := by unfold gRot; rw [if_pos h, ← hc, ← hs, ht]
  have hbk : gRot p (-q) = (⟨c, s, t, c⟩, true) := by
    unfold gRot; rw [if_pos hb, hC, hS, ← hc, ← hs, ← ht, tt]
  obtain ⟨vc, vs, ic, is, c0, c1, s0, s1, cd, sd, h1⟩ := D
  rw [← hc] at vc ic c0 c1 cd
  rw [← hs] at vs is s0 s1 sd
  rw [← hc, ← hs] at h1
  have vt : vld t = true := by rw [ht]; exact (vld_back _).trans vs
  have it : t.im = 0 := by rw [ht]; exact is
  have t0 : -40000 ≤ t.re := by rw [ht]; show -40000 ≤ -s.re; omega
  have t1 : t.re ≤ 40000 := by rw [ht]; show -s.re ≤ 40000; omega
  have td : t.den ≤ 40000 := by rw [ht]; exact sd
  have rt : rv t = - rv s := by rw [ht]; exact neg_rv s
  obtain ⟨cc, hcc, vcc, rcc, icc⟩ := tim_small vc vc ic ic c0 c1 c0 c1 cd cd
  obtain ⟨tT, htt, vtt, rtt, itt⟩ := tim_small vt vt it it t0 t1 t0 t1 td td
  obtain ⟨cs, hcs, vcs, rcs, ics⟩ := tim_small vc vs ic is c0 c1 s0 s1 cd sd
  obtain ⟨tc, htc, vtc, rtc, itc⟩ := tim_small vt vc it ic t0 t1 c0 c1 td cd
  obtain ⟨sc, hsc, vsc, rsc, isc⟩ := tim_small vs vc is ic s0 s1 c0 c1 sd cd
  obtain ⟨ct, hct, vct, rct, ict⟩ := tim_small vc vt ic it c0 c1 t0 t1 cd td
  obtain ⟨ss, hss, vss, rss, iss⟩ := tim_small vs vs is is s0 s1 s0 s1 sd sd
  obtain ⟨ts, hts, vts, rts, its⟩ := tim_small vt vs it is t0 t1 s0 s1 td sd
  have ho4 : all4 vld (⟨c, t, s, c⟩ : M4) = true := all4_iff.2 ⟨vc, vt, vs, vc⟩
  have hb4 : all4 vld (⟨c, s, t, c⟩ : M4) = true := all4_iff.2 ⟨vc, vs, vt, vc⟩
  have hm : mTm (⟨c, t, s, c⟩ : M4) ⟨c, s, t, c⟩ = (mOne, true) := by
    refine mTm_make ho4 hb4 ?_ ?_ ?_ ?_ <;> unfold fIn
    · rw [hcc, htt]; simp only [Bool.and_self, if_true]
      exact fAdd_ok.2 ⟨vcc, vtt, v1, by rw [one_a, rcc, rtt, rt]; grind, by rw [icc, itt]; show iv Pol.f1 = _; rw [i1]; grind⟩
    · rw [hcs, htc]; simp only [Bool.and_self, if_true]
      exact fAdd_ok.2 ⟨vcs, vtc, vld_f0, by rw [one_b, rcs, rtc, rt]; grind, by rw [ics, itc, one_bi]; grind⟩
    · rw [hsc, hct]; simp only [Bool.and_self, if_true]
      exact fAdd_ok.2 ⟨vsc, vct, vld_f0, by rw [show rv mOne.c = 0 from rv_f0, rsc, rct, rt]; grind, by rw [isc, ict, show iv mOne.c = 0 from iv_f0]; grind⟩
    · rw [hss, hcc]; simp only [Bool.and_self, if_true]
      exact fAdd_ok.2 ⟨vss, vcc, v1, by rw [one_d, rss, rcc]; grind, by rw [iss, icc]; show iv Pol.f1 = _; rw [i1]; grind⟩
  refine ⟨_, _, ho, hbk, hm, ?_, gLos_make ho4 ?_⟩
  · unfold gDet
    rw [hcc, hts]; simp only [Bool.and_self, if_true]
    exact fLess_ok.2 ⟨vcc, vts, v1, by rw [r1, rcc, rts, rt]; grind, by rw [icc, its, i1]; grind⟩
  · have e : mC (⟨c, t, s, c⟩ : M4) = ⟨c, s, t, c⟩ := by
      unfold mC
      have k1 := conj_real vc ((iv_zero vc).2 ic)
      have k2 := conj_real vs ((iv_zero vs).2 is)
      have k3 := conj_real vt ((iv_zero vt).2 it)
      show (⟨fConj c, fConj s, fConj t, fConj c⟩ : M4) = _
      rw [k1, k2, k3]
    rw [e]; exact hm
end Go.Proofs.YtcpdapfcbnhgaaaDoor
