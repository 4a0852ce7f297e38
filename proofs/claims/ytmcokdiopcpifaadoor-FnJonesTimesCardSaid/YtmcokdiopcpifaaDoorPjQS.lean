/- Plain facts: what the laws on alike light, alike vectors and alike matrices say. No program is in sight. -/
import Derived.Test.YtmcokdiopcpifaaDoorPjAB
import Derived.Test.YtmcokdiopcpifaaDoorPjG19
set_option maxRecDepth 100000
namespace Go.Proofs.YtmcokdiopcpifaaDoor
open Pol
theorem sgn_eq {n m : Int} (hn : 0 ≤ n) (hm : 0 ≤ m) (h : n = 0 ↔ m = 0) : sgn n = sgn m := by
  unfold sgn
  by_cases e : n = 0
  · have e2 := h.1 e
    subst e; subst e2; rfl
  · have e2 : ¬ m = 0 := fun k => e (h.2 k)
    rw [if_neg (by omega), if_pos (by omega), if_neg (by omega), if_pos (by omega)]
theorem gSAl_iff {a b : M4} : gSAl a b = true ↔ all4 realB a = true ∧ all4 realB b = true ∧ sgn a.a.re = sgn b.a.re ∧ alB a b = true := by
  unfold gSAl; simp [and_assoc]
theorem gJAl_iff {a b : J2} : gJAl a b = true ↔ (fTimes a.x b.y).2 = true ∧ (fTimes a.y b.x).2 = true ∧ jv a = true ∧ jv b = true ∧ (fTimes a.x b.y).1 = (fTimes a.y b.x).1 ∧ dkJ a = dkJ b := by
  unfold gJAl; simp [and_assoc, frEq_iff]
/-- Small real numbers. -/
def smR (f : Fr) : Bool := decide (-10000 < f.re ∧ f.re < 10000 ∧ f.den < 10000)
theorem smR_1 {f : Fr} (h : realB f = true) (k : smR f = true) : sm1 f = true := by
  have hi := (realB_iff.1 h).2
  unfold smR at k; unfold sm1
  simp only [decide_eq_true_eq] at k ⊢
  omega
/-- Real small numbers whose values across agree are alike. -/
theorem alike_of {a b : M4} (ha : all4 realB a = true) (hb : all4 realB b = true) (hs : sgn a.a.re = sgn b.a.re) (sa : ∀ k, k < 4 → smR (a.get k) = true) (sb : ∀ k, k < 4 → smR (b.get k) = true)
    (h : ∀ i k, k < i → i < 4 → rv (a.get i) * rv (b.get k) = rv (a.get k) * rv (b.get i)) : gSAl a b = true := by
  refine gSAl_iff.2 ⟨ha, hb, hs, alB_all fun i k hk hi => ?_⟩
  have hk4 : k < 4 := by omega
  have ri := all4_get ha i hi
  have rk := all4_get ha k hk4
  have ti := all4_get hb i hi
  have tk := all4_get hb k hk4
  refine gpB_of (sm_times (realB_iff.1 ri).1 (realB_iff.1 tk).1 (smR_1 ri (sa i hi)) (smR_1 tk (sb k hk4))) (sm_times (realB_iff.1 rk).1 (realB_iff.1 ti).1 (smR_1 rk (sa k hk4)) (smR_1 ti (sb i hi))) ?_ ?_
  · rw [real_iv ri, real_iv rk, h i k hk hi]; grind
  · rw [real_iv ri, real_iv rk, real_iv ti, real_iv tk]; grind
theorem cross6 {f g : Nat → Rat} (h10 : f 1 * g 0 = f 0 * g 1) (h20 : f 2 * g 0 = f 0 * g 2) (h21 : f 2 * g 1 = f 1 * g 2) (h30 : f 3 * g 0 = f 0 * g 3) (h31 : f 3 * g 1 = f 1 * g 3) (h32 : f 3 * g 2 = f 2 * g 3) : ∀ i k, k < i → i < 4 → f i * g k = f k * g i := by
  intro i k hk hi
  have : (i = 1 ∧ k = 0) ∨ (i = 2 ∧ k = 0) ∨ (i = 2 ∧ k = 1) ∨ (i = 3 ∧ k = 0) ∨ (i = 3 ∧ k = 1) ∨ (i = 3 ∧ k = 2) := by omega
  rcases this with ⟨rfl, rfl⟩ | ⟨rfl, rfl⟩ | ⟨rfl, rfl⟩ | ⟨rfl, rfl⟩ | ⟨rfl, rfl⟩ | ⟨rfl, rfl⟩ <;> assumption
/-- The values of the four numbers of a vector. -/
theorem sOf_val {a : J2} {u : M4} (h : sOf a = (u, true)) : jv a = true ∧ all4 realB u = true ∧ rv u.a = rv a.x * rv a.x + iv a.x * iv a.x + (rv a.y * rv a.y + iv a.y * iv a.y) ∧ rv u.b = rv a.x * rv a.x + iv a.x * iv a.x - (rv a.y * rv a.y + iv a.y * iv a.y) ∧ rv u.c = 2 * (rv a.x * rv a.y + iv a.x * iv a.y) ∧ rv u.d = 2 * (iv a.x * rv a.y - rv a.x * iv a.y) := by
  obtain ⟨h1, h2, h3, hu⟩ := sOf_parts h
  have hy := (fPower_vld h1.2.1).1
  have hx := (fPower_vld h1.1).1
  obtain ⟨-, -, px, ix⟩ := fPower_ok.1 (pair_t h1.1)
  obtain ⟨-, -, py, iy⟩ := fPower_ok.1 (pair_t h1.2.1)
  obtain ⟨-, -, vc, rc, ic⟩ := fTimes_ok.1 (pair_t h2.1)
  obtain ⟨-, -, va, ra, ia⟩ := fAdd_ok.1 (pair_t h2.2.1)
  obtain ⟨-, -, vb, rb, ib⟩ := fLess_ok.1 (pair_t h2.2.2)
  have hd := vld_den vc
  obtain ⟨v3, r3, i3⟩ := (low_ok hd).1 (pair_t h3.1)
  obtain ⟨v4, r4, i4⟩ := (low_ok hd).1 (pair_t h3.2)
  rw [mirror_y hy] at rc ic r3 r4 v3 v4 i3 i4
  rw [mirror_y hy] at hu
  have two : ∀ n d : Int, ((2 * n : Int) : Rat) / (d : Rat) = 2 * ((n : Rat) / (d : Rat)) := fun n d => by
    rw [Rat.intCast_mul, Rat.div_def, Rat.div_def, Rat.mul_assoc]; rfl
  have z0 : ∀ d : Int, ((0 : Int) : Rat) / (d : Rat) = 0 := fun d => by rw [Rat.div_def]; exact Rat.zero_mul _
  rw [two] at r3 r4
  rw [z0] at i3 i4
  have c1 : rv (fConj a.y) = rv a.y := rfl
  have c2 : iv (fConj a.y) = - iv a.y := conj_iv a.y
  refine ⟨jv_iff.2 ⟨hx, hy⟩, ?_, ?_, ?_, ?_, ?_⟩
  · rw [hu]
    exact all4_iff.2 ⟨real_of va (by rw [ia, ix, iy]; grind), real_of vb (by rw [ib, ix, iy]; grind), real_of v3 i3, real_of v4 i4⟩
  · rw [hu]; show rv (fAdd _ _).1 = _; rw [ra, px, py]
  · rw [hu]; show rv (fLess _ _).1 = _; rw [rb, px, py]
  · rw [hu]
    refine r3.trans ?_
    have : ((fTimes a.x (fConj a.y)).1.re : Rat) / ((fTimes a.x (fConj a.y)).1.den : Rat) = rv a.x * rv a.y + iv a.x * iv a.y := by
      refine Eq.trans (show _ = rv (fTimes a.x (fConj a.y)).1 from rfl) ?_
      rw [rc, c1, c2]; grind
    rw [this]
  · rw [hu]
    refine r4.trans ?_
    have : ((fTimes a.x (fConj a.y)).1.im : Rat) / ((fTimes a.x (fConj a.y)).1.den : Rat) = iv a.x * rv a.y - rv a.x * iv a.y := by
      refine Eq.trans (show _ = iv (fTimes a.x (fConj a.y)).1 from rfl) ?_
      rw [ic, c1, c2]; grind
    rw [this]
section jx
variable {x1 x2 y1 y2 z1 z2 w1 w2 : Rat}
theorem jx_ab (e1 : x1 * w1 - x2 * w2 = y1 * z1 - y2 * z2) (e2 : x1 * w2 + x2 * w1 = y1 * z2 + y2 * z1) : (x1 * x1 + x2 * x2) * (w1 * w1 + w2 * w2) = (y1 * y1 + y2 * y2) * (z1 * z1 + z2 * z2) := by
  have h1 : (x1 * x1 + x2 * x2) * (w1 * w1 + w2 * w2) = (x1 * w1 - x2 * w2) * (x1 * w1 - x2 * w2) + (x1 * w2 + x2 * w1) * (x1 * w2 + x2 * w1) := by grind
  have h2 : (y1 * y1 + y2 * y2) * (z1 * z1 + z2 * z2) = (y1 * z1 - y2 * z2) * (y1 * z1 - y2 * z2) + (y1 * z2 + y2 * z1) * (y1 * z2 + y2 * z1) := by grind
  rw [h1, h2, e1, e2]
theorem jx_ac (e1 : x1 * w1 - x2 * w2 = y1 * z1 - y2 * z2) (e2 : x1 * w2 + x2 * w1 = y1 * z2 + y2 * z1) : (x1 * x1 + x2 * x2) * (z1 * w1 + z2 * w2) = (x1 * y1 + x2 * y2) * (z1 * z1 + z2 * z2) := by
  have h1 : (x1 * x1 + x2 * x2) * (z1 * w1 + z2 * w2) = (x1 * w1 - x2 * w2) * (x1 * z1 - x2 * z2) + (x1 * w2 + x2 * w1) * (x1 * z2 + x2 * z1) := by grind
  have h2 : (x1 * y1 + x2 * y2) * (z1 * z1 + z2 * z2) = (y1 * z1 - y2 * z2) * (x1 * z1 - x2 * z2) + (y1 * z2 + y2 * z1) * (x1 * z2 + x2 * z1) := by grind
  rw [h1, h2, e1, e2]
theorem jx_ad (e1 : x1 * w1 - x2 * w2 = y1 * z1 - y2 * z2) (e2 : x1 * w2 + x2 * w1 = y1 * z2 + y2 * z1) : (x1 * x1 + x2 * x2) * (z2 * w1 - z1 * w2) = (x2 * y1 - x1 * y2) * (z1 * z1 + z2 * z2) := by
  have h1 : (x1 * x1 + x2 * x2) * (z2 * w1 - z1 * w2) = (x1 * w1 - x2 * w2) * (x1 * z2 + x2 * z1) - (x1 * w2 + x2 * w1) * (x1 * z1 - x2 * z2) := by grind
  have h2 : (x2 * y1 - x1 * y2) * (z1 * z1 + z2 * z2) = (y1 * z1 - y2 * z2) * (x1 * z2 + x2 * z1) - (y1 * z2 + y2 * z1) * (x1 * z1 - x2 * z2) := by grind
  rw [h1, h2, e1, e2]
theorem jx_bc (e1 : x1 * w1 - x2 * w2 = y1 * z1 - y2 * z2) (e2 : x1 * w2 + x2 * w1 = y1 * z2 + y2 * z1) : (y1 * y1 + y2 * y2) * (z1 * w1 + z2 * w2) = (x1 * y1 + x2 * y2) * (w1 * w1 + w2 * w2) := by
  have h1 : (y1 * y1 + y2 * y2) * (z1 * w1 + z2 * w2) = (y1 * z1 - y2 * z2) * (y1 * w1 - y2 * w2) + (y1 * z2 + y2 * z1) * (y1 * w2 + y2 * w1) := by grind
  have h2 : (x1 * y1 + x2 * y2) * (w1 * w1 + w2 * w2) = (x1 * w1 - x2 * w2) * (y1 * w1 - y2 * w2) + (x1 * w2 + x2 * w1) * (y1 * w2 + y2 * w1) := by grind
  rw [h1, h2, e1, e2]
theorem jx_bd (e1 : x1 * w1 - x2 * w2 = y1 * z1 - y2 * z2) (e2 : x1 * w2 + x2 * w1 = y1 * z2 + y2 * z1) : (y1 * y1 + y2 * y2) * (z2 * w1 - z1 * w2) = (x2 * y1 - x1 * y2) * (w1 * w1 + w2 * w2) := by
  have h1 : (y1 * y1 + y2 * y2) * (z2 * w1 - z1 * w2) = (y1 * z2 + y2 * z1) * (y1 * w1 - y2 * w2) - (y1 * z1 - y2 * z2) * (y1 * w2 + y2 * w1) := by grind
  have h2 : (x2 * y1 - x1 * y2) * (w1 * w1 + w2 * w2) = (x1 * w2 + x2 * w1) * (y1 * w1 - y2 * w2) - (x1 * w1 - x2 * w2) * (y1 * w2 + y2 * w1) := by grind
  rw [h1, h2, e1, e2]
theorem jx_cd (e1 : x1 * w1 - x2 * w2 = y1 * z1 - y2 * z2) (e2 : x1 * w2 + x2 * w1 = y1 * z2 + y2 * z1) : (x1 * y1 + x2 * y2) * (z2 * w1 - z1 * w2) = (x2 * y1 - x1 * y2) * (z1 * w1 + z2 * w2) := by
  have h1 : (x2 * y1 - x1 * y2) * (z1 * w1 + z2 * w2) - (x1 * y1 + x2 * y2) * (z2 * w1 - z1 * w2) = (x1 * w2 + x2 * w1) * (y1 * z1 - y2 * z2) - (x1 * w1 - x2 * w2) * (y1 * z2 + y2 * z1) := by grind
  rw [e1, e2] at h1
  grind
end jx
theorem sq4 {x y z w : Rat} (h : x * x + y * y + (z * z + w * w) = 0) : (x = 0 ∧ y = 0) ∧ z = 0 ∧ w = 0 := by
  have a := sq_nn x
  have b := sq_nn y
  have c := sq_nn z
  have d := sq_nn w
  have hx : x * x = 0 := by grind
  have hy : y * y = 0 := by grind
  have hz : z * z = 0 := by grind
  have hw : w * w = 0 := by grind
  refine ⟨⟨?_, ?_⟩, ?_, ?_⟩
  · rcases Rat.mul_eq_zero.1 hx with h | h <;> exact h
  · rcases Rat.mul_eq_zero.1 hy with h | h <;> exact h
  · rcases Rat.mul_eq_zero.1 hz with h | h <;> exact h
  · rcases Rat.mul_eq_zero.1 hw with h | h <;> exact h
theorem dkJ_iff {a : J2} (h : jv a = true) : dkJ a = true ↔ (rv a.x = 0 ∧ iv a.x = 0) ∧ rv a.y = 0 ∧ iv a.y = 0 := by
  obtain ⟨h1, h2⟩ := jv_iff.1 h
  unfold dkJ
  rw [Bool.and_eq_true, dkF_iff h1, dkF_iff h2]
theorem dkJ_pow {a : J2} (h : jv a = true) : dkJ a = true ↔ rv a.x * rv a.x + iv a.x * iv a.x + (rv a.y * rv a.y + iv a.y * iv a.y) = 0 := by
  rw [dkJ_iff h]
  constructor
  · rintro ⟨⟨e1, e2⟩, e3, e4⟩; rw [e1, e2, e3, e4]; grind
  · exact sq4
theorem pow_nn (x y z w : Rat) : 0 ≤ x * x + y * y + (z * z + w * w) := by
  have a := sq_nn x
  have b := sq_nn y
  have c := sq_nn z
  have d := sq_nn w
  grind
theorem law_jalike {a b : J2} {u v : M4} (h : gJAl a b = true) (hu : sOf a = (u, true)) (hv : sOf b = (v, true)) (su : ∀ k, k < 4 → smR (u.get k) = true) (sv : ∀ k, k < 4 → smR (v.get k) = true) : gSAl u v = true := by
  obtain ⟨t1, t2, ja, jb, he, hd⟩ := gJAl_iff.1 h
  obtain ⟨-, -, -, r1, i1⟩ := fTimes_ok.1 (pair_t t1)
  obtain ⟨-, -, -, r2, i2⟩ := fTimes_ok.1 (pair_t t2)
  rw [he] at r1 i1
  have e1 := r1.symm.trans r2
  have e2 := i1.symm.trans i2
  obtain ⟨-, ru, ua, ub, uc, ud⟩ := sOf_val hu
  obtain ⟨-, rv', va, vb, vc, vd⟩ := sOf_val hv
  have wu := (realB_iff.1 (all4_iff.1 ru).1).1
  have wv := (realB_iff.1 (all4_iff.1 rv').1).1
  refine alike_of ru rv' ?_ su sv ?_
  · refine sgn_eq ?_ ?_ ?_
    · exact (rv_nonneg wu).1 (by rw [ua]; exact pow_nn _ _ _ _)
    · exact (rv_nonneg wv).1 (by rw [va]; exact pow_nn _ _ _ _)
    · rw [← rv_zero wu, ← rv_zero wv, ua, va, ← dkJ_pow ja, ← dkJ_pow jb, hd]
  · have k1 := jx_ab e1 e2
    have k2 := jx_ac e1 e2
    have k3 := jx_ad e1 e2
    have k4 := jx_bc e1 e2
    have k5 := jx_bd e1 e2
    have k6 := jx_cd e1 e2
    refine cross6 (f := fun i => rv (u.get i)) (g := fun i => rv (v.get i)) ?_ ?_ ?_ ?_ ?_ ?_
    · show rv u.b * rv v.a = rv u.a * rv v.b; rw [ua, ub, va, vb]; clear k2 k3 k4 k5 k6; grind
    · show rv u.c * rv v.a = rv u.a * rv v.c; rw [ua, uc, va, vc]; clear k1 k3 k5 k6; grind
    · show rv u.c * rv v.b = rv u.b * rv v.c; rw [ub, uc, vb, vc]; clear k1 k3 k5 k6; grind
    · show rv u.d * rv v.a = rv u.a * rv v.d; rw [ua, ud, va, vd]; clear k1 k2 k4 k6; grind
    · show rv u.d * rv v.b = rv u.b * rv v.d; rw [ub, ud, vb, vd]; clear k1 k2 k4 k6; grind
    · show rv u.d * rv v.c = rv u.c * rv v.d; rw [uc, ud, vc, vd]; clear k1 k2 k3 k4 k5; grind
theorem jp_ok {a : J2} {o : Fr} (h : jPow a = (o, true)) : vld o = true ∧ rv o = (rv a.x * rv a.x + iv a.x * iv a.x) + (rv a.y * rv a.y + iv a.y * iv a.y) ∧ iv o = 0 := by
  unfold jPow at h
  split at h
  · next hh =>
    simp only [Bool.and_eq_true] at hh
    obtain ⟨-, -, v, r, i⟩ := fAdd_ok.1 h
    obtain ⟨-, -, r1, i1⟩ := fPower_ok.1 (pair_t hh.1)
    obtain ⟨-, -, r2, i2⟩ := fPower_ok.1 (pair_t hh.2)
    exact ⟨v, by rw [r, r1, r2], by rw [i, i1, i2]; grind⟩
  · cases h
theorem cz {x1 x2 c1 c2 : Rat} (hc : ¬ (c1 = 0 ∧ c2 = 0)) (h : x1 * c1 - x2 * c2 = 0) (k : x1 * c2 + x2 * c1 = 0) : x1 = 0 ∧ x2 = 0 := by
  have e : (x1 * x1 + x2 * x2) * (c1 * c1 + c2 * c2) = (x1 * c1 - x2 * c2) * (x1 * c1 - x2 * c2) + (x1 * c2 + x2 * c1) * (x1 * c2 + x2 * c1) := by grind
  rw [h, k] at e
  have e0 : (x1 * x1 + x2 * x2) * (c1 * c1 + c2 * c2) = 0 := by grind
  rcases Rat.mul_eq_zero.1 e0 with h1 | h1
  · have := sq4 (x := x1) (y := x2) (z := 0) (w := 0) (by rw [h1]; grind)
    exact this.1
  · have := sq4 (x := c1) (y := c2) (z := 0) (w := 0) (by rw [h1]; grind)
    exact absurd this.1 hc
theorem jTim_parts {a o : J2} {c : Fr} (h : jTim a c = (o, true)) : fTimes a.x c = (o.x, true) ∧ fTimes a.y c = (o.y, true) := by
  unfold jTim j2of at h
  split at h
  · next hh =>
    simp only [Bool.and_eq_true] at hh
    have := (Prod.mk.inj h).1
    rw [← this]
    exact ⟨pair_t hh.1, pair_t hh.2⟩
  · cases h
theorem c_nz {c : Fr} (h : vld c = true) (hc : ¬ (c.re = 0 ∧ c.im = 0)) : ¬ (rv c = 0 ∧ iv c = 0) := fun ⟨h1, h2⟩ => hc ⟨(rv_zero h).1 h1, (iv_zero h).1 h2⟩
theorem times_dk {x y c : Fr} (h : fTimes x c = (y, true)) (hc : ¬ (c.re = 0 ∧ c.im = 0)) : dkF x = dkF y := by
  obtain ⟨v1, v2, v3, r, i⟩ := fTimes_ok.1 h
  rw [Bool.eq_iff_iff, dkF_iff v1, dkF_iff v3]
  constructor
  · rintro ⟨h1, h2⟩; rw [r, i, h1, h2]; constructor <;> grind
  · rintro ⟨h1, h2⟩
    rw [r] at h1; rw [i] at h2
    exact cz (c_nz v2 hc) h1 h2
theorem law_jtim {a o : J2} {c : Fr} (h : jTim a c = (o, true)) (hc : ¬ (c.re = 0 ∧ c.im = 0)) (p : (fTimes a.x o.y).2 = true) (q : (fTimes a.y o.x).2 = true) : gJAl a o = true := by
  obtain ⟨h1, h2⟩ := jTim_parts h
  obtain ⟨v1, v2, v3, r1, i1⟩ := fTimes_ok.1 h1
  obtain ⟨w1, w2, w3, r2, i2⟩ := fTimes_ok.1 h2
  refine gJAl_iff.2 ⟨p, q, jv_iff.2 ⟨v1, w1⟩, jv_iff.2 ⟨v3, w3⟩, times_eq p q ?_ ?_, ?_⟩
  · rw [r1, i1, r2, i2]; grind
  · rw [r1, i1, r2, i2]; grind
  · unfold dkJ; rw [times_dk h1 hc, times_dk h2 hc]
theorem law_jtpow {a o : J2} {c n u v w : Fr} (h : jTim a c = (o, true)) (hn : jPow o = (n, true)) (hu : jPow a = (u, true)) (hv : fPower c = (v, true)) (hw : fTimes u v = (w, true)) : n = w := by
  obtain ⟨h1, h2⟩ := jTim_parts h
  obtain ⟨-, -, -, r1, i1⟩ := fTimes_ok.1 h1
  obtain ⟨-, -, -, r2, i2⟩ := fTimes_ok.1 h2
  obtain ⟨vn, rn, inn⟩ := jp_ok hn
  obtain ⟨vu, ru, iu⟩ := jp_ok hu
  obtain ⟨-, vv, rv', iv'⟩ := fPower_ok.1 hv
  obtain ⟨-, -, vw, rw', iw⟩ := fTimes_ok.1 hw
  refine val_inj vn vw ?_ ?_
  · rw [rn, rw', ru, rv', iu, iv', r1, i1, r2, i2]; grind
  · rw [inn, iw, iu, iv']; grind
theorem vec_parts {a : M4} {v : J2} (h : gVec a = (v, true)) : gPure a = true ∧ m4B a mZ = false ∧ (fAdd a.a a.b).2 = true ∧ ((frB (fAdd a.a a.b).1 f0 = true ∧ v = ⟨f0, (fTimes f2' a.a).1⟩) ∨ (frB (fAdd a.a a.b).1 f0 = false ∧ (fLess a.c (fTimes a.d pI).1).2 = true ∧ v = ⟨(fAdd a.a a.b).1, (fLess a.c (fTimes a.d pI).1).1⟩)) := by
  unfold gVec at h
  split at h
  · next h1 =>
    simp only [Bool.and_eq_true, Bool.not_eq_true'] at h1
    split at h
    · next h2 =>
      split at h
      · next h3 => exact ⟨h1.1, h1.2, h2, Or.inl ⟨h3, (Prod.mk.inj h).1.symm⟩⟩
      · next h3 =>
        split at h
        · next h4 => exact ⟨h1.1, h1.2, h2, Or.inr ⟨by simpa using h3, h4, (Prod.mk.inj h).1.symm⟩⟩
        · cases h
    · cases h
  · cases h
theorem vec_pos {a : M4} (hp : gPure a = true) (hz : m4B a mZ = false) : 0 < rv a.a := by
  rw [pure_zero hp] at hz
  have hz' : ¬ a.a.re = 0 := by simpa using hz
  obtain ⟨hr, -, -, h0⟩ := pure_parts hp
  have va := (realB_iff.1 (all4_iff.1 hr).1).1
  exact Rat.not_le.1 (fun hle => hz' ((rv_zero va).1 (Rat.le_antisymm hle h0)))
theorem pure_light {a : M4} (h : gPure a = true) : gLight a = true := by
  obtain ⟨s1, s2, s3, s4⟩ := pure_iff.1 h
  exact light_iff.2 ⟨s1, s2, by rw [s3]; exact Rat.le_refl, s4⟩
theorem law_pure {a u : M4} {v : J2} (h : gVec a = (v, true)) (hu : sOf v = (u, true)) (sa : ∀ k, k < 4 → smR (a.get k) = true) (su : ∀ k, k < 4 → smR (u.get k) = true) : gSAl a u = true := by
  obtain ⟨hp, hz, hx, hh⟩ := vec_parts h
  obtain ⟨hr, ht, hq, h0⟩ := pure_parts hp
  obtain ⟨ra, rb, rc, rd⟩ := all4_iff.1 hr
  have hpos := vec_pos hp hz
  obtain ⟨-, ru, ua, ub, uc, ud⟩ := sOf_val hu
  have wa := (realB_iff.1 ra).1
  have wu := (realB_iff.1 (all4_iff.1 ru).1).1
  have ia := real_iv ra
  have ib := real_iv rb
  have ic := real_iv rc
  have id' := real_iv rd
  obtain ⟨-, -, vx, rx, ix⟩ := fAdd_ok.1 (pair_t hx)
  rw [ia, ib] at ix
  rcases hh with ⟨hf, rfl⟩ | ⟨hf, h1, rfl⟩
  · obtain ⟨-, t2⟩ := twice_ok ra ht
    obtain ⟨-, -, v2, r2, i2⟩ := fTimes_ok.1 (show fTimes f2' a.a = ((fTimes f2' a.a).1, true) by rw [t2])
    have e2 : rv f2' = 2 := by show ((2 : Int) : Rat) / ((1 : Int) : Rat) = 2; grind
    have e3 : iv f2' = 0 := by show ((0 : Int) : Rat) / ((1 : Int) : Rat) = 0; grind
    rw [e2, e3, ia] at r2 i2
    simp only [rv_f0, iv_f0, r2, i2] at ua ub uc ud
    have hs : rv a.a + rv a.b = 0 := by rw [← rx, frB_iff.1 hf, rv_f0]
    have hb : rv a.b = - rv a.a := by grind
    rw [hb] at hq
    have hcd : rv a.c * rv a.c + rv a.d * rv a.d = 0 := by grind
    obtain ⟨-, zc, zd⟩ := sq4 (x := 0) (y := 0) (z := rv a.c) (w := rv a.d) (by rw [hcd]; grind)
    refine alike_of hr ru ?_ sa su ?_
    · refine sgn_eq ((rv_nonneg wa).1 h0) ((rv_nonneg wu).1 (by rw [ua]; exact pow_nn 0 0 _ _)) ?_
      rw [← rv_zero wa, ← rv_zero wu, ua]
      constructor
      · intro e; rw [e]; grind
      · intro e
        have e' : rv a.a * rv a.a = 0 := by grind
        rcases Rat.mul_eq_zero.1 e' with e' | e' <;> exact e'
    · refine cross6 (f := fun i => rv (a.get i)) (g := fun i => rv (u.get i)) ?_ ?_ ?_ ?_ ?_ ?_
      · show rv a.b * rv u.a = rv a.a * rv u.b; rw [ua, ub, hb]; grind
      · show rv a.c * rv u.a = rv a.a * rv u.c; rw [uc, zc]; grind
      · show rv a.c * rv u.b = rv a.b * rv u.c; rw [uc, zc]; grind
      · show rv a.d * rv u.a = rv a.a * rv u.d; rw [ud, zd]; grind
      · show rv a.d * rv u.b = rv a.b * rv u.d; rw [ud, zd]; grind
      · show rv a.d * rv u.c = rv a.c * rv u.d; rw [zc, zd]; grind
  · obtain ⟨-, -, v2, r2, i2⟩ := fLess_ok.1 (pair_t h1)
    have vd := (realB_iff.1 rd).1
    rw [turn_i vd] at r2 i2
    have k1 : rv (⟨-a.d.im, a.d.re, a.d.den⟩ : Fr) = - iv a.d := turnE_rv _
    have k2 : iv (⟨-a.d.im, a.d.re, a.d.den⟩ : Fr) = rv a.d := rfl
    rw [k1, id'] at r2
    rw [k2, ic] at i2
    have ux : rv (⟨(fAdd a.a a.b).1, (fLess a.c (fTimes a.d pI).1).1⟩ : J2).x = rv a.a + rv a.b := rx
    have uy : iv (⟨(fAdd a.a a.b).1, (fLess a.c (fTimes a.d pI).1).1⟩ : J2).x = 0 := by refine ix.trans ?_; grind
    have uz : rv (⟨(fAdd a.a a.b).1, (fLess a.c (fTimes a.d pI).1).1⟩ : J2).y = rv a.c := by
      show rv (fLess a.c (fTimes a.d pI).1).1 = _
      rw [turn_i vd, r2]; grind
    have uw : iv (⟨(fAdd a.a a.b).1, (fLess a.c (fTimes a.d pI).1).1⟩ : J2).y = - rv a.d := by
      show iv (fLess a.c (fTimes a.d pI).1).1 = _
      rw [turn_i vd, i2]; grind
    rw [ux, uy, uz, uw] at ua ub uc ud
    have hsx : rv a.a + rv a.b ≠ 0 := by
      intro e
      have : (fAdd a.a a.b).1 = f0 := real_eq0 (real_of vx (by rw [ix]; grind)) (by rw [rx, e])
      rw [frB_iff.2 this] at hf; cases hf
    have na : rv u.a = 2 * ((rv a.a + rv a.b) * rv a.a) := by
      rw [ua]; grind
    have nb : rv u.b = 2 * ((rv a.a + rv a.b) * rv a.b) := by
      rw [ub]; grind
    have nc : rv u.c = 2 * ((rv a.a + rv a.b) * rv a.c) := by
      rw [uc]; grind
    have nd : rv u.d = 2 * ((rv a.a + rv a.b) * rv a.d) := by
      rw [ud]; grind
    have nn : 0 ≤ rv u.a := by rw [ua]; exact pow_nn _ 0 _ (-(rv a.d))
    refine alike_of hr ru ?_ sa su ?_
    · refine sgn_eq ((rv_nonneg wa).1 h0) ((rv_nonneg wu).1 nn) ?_
      rw [← rv_zero wa, ← rv_zero wu, na]
      constructor
      · intro e; rw [e]; grind
      · intro e
        have e' : (rv a.a + rv a.b) * rv a.a = 0 := by grind
        rcases Rat.mul_eq_zero.1 e' with e' | e'
        · exact absurd e' hsx
        · exact e'
    · refine cross6 (f := fun i => rv (a.get i)) (g := fun i => rv (u.get i)) ?_ ?_ ?_ ?_ ?_ ?_
      · show rv a.b * rv u.a = rv a.a * rv u.b; rw [na, nb]; grind
      · show rv a.c * rv u.a = rv a.a * rv u.c; rw [na, nc]; grind
      · show rv a.c * rv u.b = rv a.b * rv u.c; rw [nb, nc]; grind
      · show rv a.d * rv u.a = rv a.a * rv u.d; rw [na, nd]; grind
      · show rv a.d * rv u.b = rv a.b * rv u.d; rw [nb, nd]; grind
      · show rv a.d * rv u.c = rv a.c * rv u.d; rw [nc, nd]; grind
end Go.Proofs.YtmcokdiopcpifaaDoor
