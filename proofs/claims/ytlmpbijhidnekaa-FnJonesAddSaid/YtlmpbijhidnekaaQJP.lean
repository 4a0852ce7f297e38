/- Plain facts: vectors add up. -/
import Derived.Test.YtlmpbijhidnekaaCXP
namespace Go.Proofs.Ytlmpbijhidnekaa
open Pol

theorem jAdd_comm (a b : J2) : jAdd a b = jAdd b a := by unfold jAdd; rw [fAdd_comm' a.x, fAdd_comm' a.y]
theorem j2of_no {p q : Fr × Bool} (h : (j2of p q).2 = false) : j2of p q = (j2z, false) := by
  unfold j2of at h ⊢
  split
  · next hh => rw [if_pos hh] at h; cases h
  · rfl
theorem jAdd_ok {a b c : J2} (h : jAdd a b = (c, true)) : (jv a = true ∧ jv b = true) ∧ rv c.x = rv a.x + rv b.x ∧ iv c.x = iv a.x + iv b.x ∧ rv c.y = rv a.y + rv b.y ∧ iv c.y = iv a.y + iv b.y := by
  unfold jAdd j2of at h
  split at h
  · next hh =>
    simp only [Bool.and_eq_true] at hh
    obtain ⟨v1, v2, -, r1, i1⟩ := fAdd_ok.1 (pair_t hh.1)
    obtain ⟨v3, v4, -, r2, i2⟩ := fAdd_ok.1 (pair_t hh.2)
    have hc := (Prod.mk.inj h).1
    rw [← hc]
    exact ⟨⟨jv_iff.2 ⟨v1, v3⟩, jv_iff.2 ⟨v2, v4⟩⟩, r1, i1, r2, i2⟩
  · cases h
theorem jPow_ok {a : J2} {o : Fr} (h : jPow a = (o, true)) : vld o = true ∧ rv o = (rv a.x * rv a.x + iv a.x * iv a.x) + (rv a.y * rv a.y + iv a.y * iv a.y) ∧ iv o = 0 := by
  unfold jPow at h
  split at h
  · next hh =>
    simp only [Bool.and_eq_true] at hh
    obtain ⟨-, -, v, r, i⟩ := fAdd_ok.1 h
    obtain ⟨-, -, r1, i1⟩ := fPower_ok.1 (pair_t hh.1)
    obtain ⟨-, -, r2, i2⟩ := fPower_ok.1 (pair_t hh.2)
    exact ⟨v, by rw [r, r1, r2], by rw [i, i1, i2]; grind⟩
  · cases h
theorem neg_rv (a : Fr) : rv (fNeg a) = - rv a := by
  show ((-a.re : Int) : Rat) / (a.den : Rat) = -((a.re : Rat) / (a.den : Rat))
  rw [Rat.intCast_neg, Rat.div_def, Rat.div_def, Rat.neg_mul]
theorem neg_iv (a : Fr) : iv (fNeg a) = - iv a := by
  show ((-a.im : Int) : Rat) / (a.den : Rat) = -((a.im : Rat) / (a.den : Rat))
  rw [Rat.intCast_neg, Rat.div_def, Rat.div_def, Rat.neg_mul]
theorem par {a b o l : J2} {u v w z B T S : Fr} (ho : jAdd a b = (o, true)) (hl : jAdd a (jNeg b) = (l, true)) (hu : jPow o = (u, true)) (hv : jPow l = (v, true)) (hw : jPow a = (w, true)) (hz : jPow b = (z, true)) (h1 : fAdd w z = (B, true)) (h2 : fAdd B B = (T, true)) (h3 : fAdd u v = (S, true)) : S = T := by
  obtain ⟨-, a1, a2, a3, a4⟩ := jAdd_ok ho
  obtain ⟨-, b1, b2, b3, b4⟩ := jAdd_ok hl
  obtain ⟨-, u1, u2⟩ := jPow_ok hu
  obtain ⟨-, v1, v2⟩ := jPow_ok hv
  obtain ⟨-, w1, w2⟩ := jPow_ok hw
  obtain ⟨-, z1, z2⟩ := jPow_ok hz
  obtain ⟨-, -, -, p1, p2⟩ := fAdd_ok.1 h1
  obtain ⟨-, -, vT, q1, q2⟩ := fAdd_ok.1 h2
  obtain ⟨-, -, vS, s1, s2⟩ := fAdd_ok.1 h3
  have n1 : rv (jNeg b).x = - rv b.x := neg_rv _
  have n2 : iv (jNeg b).x = - iv b.x := neg_iv _
  have n3 : rv (jNeg b).y = - rv b.y := neg_rv _
  have n4 : iv (jNeg b).y = - iv b.y := neg_iv _
  refine val_inj vS vT ?_ ?_
  · rw [s1, q1, p1, u1, v1, w1, z1, a1, a2, a3, a4, b1, b2, b3, b4, n1, n2, n3, n4]; grind
  · rw [s2, q2, p2, u2, v2, w2, z2]; grind
end Go.Proofs.Ytlmpbijhidnekaa
