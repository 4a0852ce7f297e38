/- Plain facts: what holds of the four numbers of light. -/
import Derived.Test.YtmcokdiopcpifaaDoorS3
import Derived.Test.YtmcokdiopcpifaaDoorY
import Derived.Test.YtmcokdiopcpifaaDoorQ4
import Derived.Test.YtmcokdiopcpifaaDoorQR
set_option maxRecDepth 100000
namespace Go.Proofs.YtmcokdiopcpifaaDoor
open Pol

theorem sSq_ok {a : M4} (h : (sSq a).2 = true) : all4 realB a = true ∧ realB (sSq a).1 = true ∧ rv (sSq a).1 = rv a.b * rv a.b + rv a.c * rv a.c + rv a.d * rv a.d := by
  have hv : (fAdd (fAdd (fTimes a.b a.b).1 (fTimes a.c a.c).1).1 (fTimes a.d a.d).1).1 = (sSq a).1 := (gt_end fz _ _).2 h
  have he := (gt_end fz (((((((false || !all4 realB a) || !(fTimes a.b a.b).2) || !(fTimes a.c a.c).2) || !(fAdd (fTimes a.b a.b).1 (fTimes a.c a.c).1).2) || !(fTimes a.d a.d).2) || !(fAdd (fAdd (fTimes a.b a.b).1 (fTimes a.c a.c).1).1 (fTimes a.d a.d).1).2)) (fAdd (fAdd (fTimes a.b a.b).1 (fTimes a.c a.c).1).1 (fTimes a.d a.d).1).1).1
  have h' : (!(sSq a).2) = false := by rw [h]; rfl
  have he' := he.trans h'
  simp only [Bool.false_or, Bool.or_eq_false_iff, Bool.not_eq_false'] at he'
  obtain ⟨⟨⟨⟨⟨ha, t1⟩, t2⟩, n2⟩, t3⟩, n3⟩ := he'
  have hr := all4_iff.1 ha
  have o1 := fTimes_ok.1 (pair_t t1)
  have o2 := fTimes_ok.1 (pair_t t2)
  have o3 := fTimes_ok.1 (pair_t t3)
  have p2 := fAdd_ok.1 (pair_t n2)
  have p3 := fAdd_ok.1 (pair_t n3)
  have ib := real_iv hr.2.1
  have ic := real_iv hr.2.2.1
  have id' := real_iv hr.2.2.2
  have w1 : iv (fTimes a.b a.b).1 = 0 := by rw [o1.2.2.2.2, ib]; grind
  have w2 : iv (fTimes a.c a.c).1 = 0 := by rw [o2.2.2.2.2, ic]; grind
  have w3 : iv (fTimes a.d a.d).1 = 0 := by rw [o3.2.2.2.2, id']; grind
  have w4 : iv (fAdd (fTimes a.b a.b).1 (fTimes a.c a.c).1).1 = 0 := by rw [p2.2.2.2.2, w1, w2]; grind
  refine ⟨ha, ?_, ?_⟩
  · rw [← hv]
    exact real_of p3.2.2.1 (by rw [p3.2.2.2.2, w4, w3]; grind)
  · rw [← hv, p3.2.2.2.1, p2.2.2.2.1, o1.2.2.2.1, o2.2.2.2.1, o3.2.2.2.1, ib, ic, id']; grind
theorem sq_ok {a : Fr} (hr : realB a = true) (h : (fTimes a a).2 = true) : realB (fTimes a a).1 = true ∧ rv (fTimes a a).1 = rv a * rv a := by
  have o := fTimes_ok.1 (pair_t h)
  have i := real_iv hr
  exact ⟨real_of o.2.2.1 (by rw [o.2.2.2.2, i]; grind), by rw [o.2.2.2.1, i]; grind⟩
theorem sgn_nn (n : Int) : 0 ≤ sgn n ↔ 0 ≤ n := by unfold sgn; split <;> (try split) <;> omega
theorem sgn_z (n : Int) : sgn n = 0 ↔ n = 0 := by unfold sgn; split <;> (try split) <;> omega
theorem rest_ok {a : M4} (h1 : (sSq a).2 = true) (h2 : (fTimes a.a a.a).2 = true) : (gRest a).2 = true ∧ (0 ≤ (gRest a).1 ↔ rv a.b * rv a.b + rv a.c * rv a.c + rv a.d * rv a.d ≤ rv a.a * rv a.a) ∧ ((gRest a).1 = 0 ↔ rv a.b * rv a.b + rv a.c * rv a.c + rv a.d * rv a.d = rv a.a * rv a.a) := by
  obtain ⟨ha, hq, hv⟩ := sSq_ok h1
  obtain ⟨hp, hw⟩ := sq_ok (all4_iff.1 ha).1 h2
  have vq := (realB_iff.1 hq).1
  have vp := (realB_iff.1 hp).1
  have e : gRest a = (sgn ((fTimes a.a a.a).1.re * (sSq a).1.den - (sSq a).1.re * (fTimes a.a a.a).1.den), true) := by
    unfold gRest fCmp
    simp [h1, h2, hp, hq]
  have l1 := rv_le vq vp
  have l2 := rv_le vp vq
  rw [hv, hw] at l1 l2
  rw [e]
  refine ⟨rfl, ?_, ?_⟩
  · rw [sgn_nn, l1]
    constructor <;> intro h <;> omega
  · rw [sgn_z]
    constructor
    · intro h
      have a1 := l1.2 (by omega)
      have a2 := l2.2 (by omega)
      exact Rat.le_antisymm a1 a2
    · intro h
      have a1 := l1.1 (by rw [h]; exact Rat.le_refl)
      have a2 := l2.1 (by rw [h]; exact Rat.le_refl)
      omega
theorem rest_told {a : M4} (h : (gRest a).2 = true) : (sSq a).2 = true ∧ (fTimes a.a a.a).2 = true := by
  unfold gRest at h
  split at h
  · next hh => simpa using hh
  · cases h
theorem light_iff {a : M4} : gLight a = true ↔ (sSq a).2 = true ∧ (fTimes a.a a.a).2 = true ∧ rv a.b * rv a.b + rv a.c * rv a.c + rv a.d * rv a.d ≤ rv a.a * rv a.a ∧ 0 ≤ rv a.a := by
  unfold gLight
  simp only [Bool.and_eq_true, decide_eq_true_eq]
  constructor
  · rintro ⟨⟨h1, h2⟩, h3⟩
    obtain ⟨s1, s2⟩ := rest_told h1
    have hr := (all4_iff.1 (sSq_ok s1).1).1
    exact ⟨s1, s2, (rest_ok s1 s2).2.1.1 h2, (rv_nonneg (realB_iff.1 hr).1).2 h3⟩
  · rintro ⟨s1, s2, h3, h4⟩
    have hr := (all4_iff.1 (sSq_ok s1).1).1
    exact ⟨⟨(rest_ok s1 s2).1, (rest_ok s1 s2).2.1.2 h3⟩, (rv_nonneg (realB_iff.1 hr).1).1 h4⟩
theorem pure_iff {a : M4} : gPure a = true ↔ (sSq a).2 = true ∧ (fTimes a.a a.a).2 = true ∧ rv a.b * rv a.b + rv a.c * rv a.c + rv a.d * rv a.d = rv a.a * rv a.a ∧ 0 ≤ rv a.a := by
  unfold gPure
  simp only [Bool.and_eq_true, decide_eq_true_eq]
  constructor
  · rintro ⟨⟨h1, h2⟩, h3⟩
    obtain ⟨s1, s2⟩ := rest_told h1
    have hr := (all4_iff.1 (sSq_ok s1).1).1
    exact ⟨s1, s2, (rest_ok s1 s2).2.2.1 h2, (rv_nonneg (realB_iff.1 hr).1).2 h3⟩
  · rintro ⟨s1, s2, h3, h4⟩
    have hr := (all4_iff.1 (sSq_ok s1).1).1
    exact ⟨⟨(rest_ok s1 s2).1, (rest_ok s1 s2).2.2.2 h3⟩, (rv_nonneg (realB_iff.1 hr).1).1 h4⟩

/- Mirrors. -/
def mirS (m : M4) : M4 := setD m ⟨-m.d.re, m.d.im, m.d.den⟩
theorem mir_d {m : M4} (h : all4 realB m = true) : realB (mirS m).d = true := by
  have hr := (all4_iff.1 h).2.2.2
  obtain ⟨h1, h2⟩ := realB_iff.1 hr
  exact realB_iff.2 ⟨(vld_back m.d).trans h1, h2⟩
theorem mir_real {m : M4} (h : all4 realB m = true) : all4 realB (mirS m) = true := by
  have hr := all4_iff.1 h
  exact all4_iff.2 ⟨hr.1, hr.2.1, hr.2.2.1, mir_d h⟩
theorem mir_mir (m : M4) : mirS (mirS m) = m := by
  unfold mirS setD
  obtain ⟨a, b, c, d⟩ := m
  simp
theorem mir_sum {m : M4} (h : all4 realB m = true) : fAdd (mirS m).d m.d = (f0, true) := by
  have hr := (all4_iff.1 h).2.2.2
  obtain ⟨h1, h2⟩ := realB_iff.1 hr
  have i1 := real_iv hr
  have i2 := real_iv (mir_d h)
  have v1 : vld (mirS m).d = true := (vld_back m.d).trans h1
  refine fAdd_ok.2 ⟨v1, h1, vld_f0, ?_, ?_⟩
  · rw [rv_f0]
    show (0 : Rat) = ((-m.d.re : Int) : Rat) / (m.d.den : Rat) + (m.d.re : Rat) / (m.d.den : Rat)
    have := vld_cast h1
    rw [Rat.intCast_neg]
    grind
  · rw [iv_f0, i1, i2]; grind
theorem mir_sq {m : M4} (h : all4 realB m = true) : fTimes (mirS m).d (mirS m).d = fTimes m.d m.d := by
  have hr := (all4_iff.1 h).2.2.2
  obtain ⟨h1, h2⟩ := realB_iff.1 hr
  have v1 : vld (mirS m).d = true := (vld_back m.d).trans h1
  unfold fTimes
  rw [v1, h1]
  show low (-m.d.re * -m.d.re - m.d.im * m.d.im) (-m.d.re * m.d.im + m.d.im * -m.d.re) (m.d.den * m.d.den) = low (m.d.re * m.d.re - m.d.im * m.d.im) (m.d.re * m.d.im + m.d.im * m.d.re) (m.d.den * m.d.den)
  rw [h2, Int.neg_mul_neg]
  simp
theorem mir_sSq {m : M4} (h : all4 realB m = true) : sSq (mirS m) = sSq m := by
  unfold sSq
  rw [mir_real h, h, mir_sq h]
  rfl
theorem mir_light {m : M4} (h : all4 realB m = true) : gLight (mirS m) = gLight m := by
  unfold gLight gRest
  rw [mir_sSq h]
  rfl
theorem sq_re {a : M4} (h : (sSq a).2 = true) : 0 ≤ (sSq a).1.re ∧ (sSq a).1.im = 0 := by
  obtain ⟨_, hq, hv⟩ := sSq_ok h
  obtain ⟨v1, v2⟩ := realB_iff.1 hq
  refine ⟨(rv_nonneg v1).1 ?_, v2⟩
  rw [hv]
  have a1 := sq_nn (rv a.b)
  have a2 := sq_nn (rv a.c)
  have a3 := sq_nn (rv a.d)
  grind
/- Multiples. -/
def f1 : Fr := ⟨1, 0, 1⟩
theorem vld_f1 : vld f1 = true := by decide
theorem times_one {a : Fr} (h : vld a = true) : fTimes a f1 = (a, true) := by
  have a1 : rv f1 = 1 := by show ((1 : Int) : Rat) / ((1 : Int) : Rat) = 1; grind
  have a2 : iv f1 = 0 := by show ((0 : Int) : Rat) / ((1 : Int) : Rat) = 0; grind
  exact fTimes_ok.2 ⟨h, vld_f1, h, by rw [a1, a2]; grind, by rw [a1, a2]; grind⟩
theorem m4l_ok {e : Bool} {f : Nat → Fr × Bool} (h : (m4l e f).2 = true) : (e = false ∧ ∀ k, k < 4 → (f k).2 = true) ∧ (m4l e f).1 = m4f f := by
  unfold m4l at h ⊢
  obtain ⟨h1, h2⟩ := gt_end m4z (fl e f 4) (m4f f)
  rw [h] at h1
  exact ⟨fl_false.1 h1, (h2 h).symm⟩
theorem sTim_one {a : M4} (h : all4 realB a = true) : sTim a f1 = (a, true) := by
  have hr := all4_iff.1 h
  have e : (false || !(all4 realB a && realB f1)) = false := by rw [h]; decide
  unfold sTim
  rw [e]
  have hk : ∀ k, k < 4 → sTimF a f1 k = (a.get k, true) := by
    intro k hk
    have : k = 0 ∨ k = 1 ∨ k = 2 ∨ k = 3 := by omega
    rcases this with rfl | rfl | rfl | rfl
    · exact times_one (realB_iff.1 hr.1).1
    · exact times_one (realB_iff.1 hr.2.1).1
    · exact times_one (realB_iff.1 hr.2.2.1).1
    · exact times_one (realB_iff.1 hr.2.2.2).1
  rw [m4l_good (fun k h => by rw [hk k h])]
  unfold m4f
  rw [hk 0 (by omega), hk 1 (by omega), hk 2 (by omega), hk 3 (by omega)]
  rfl
theorem law_times {a : M4} {c : Fr} (hg : (sTim a c).2 = true) (hc : 0 ≤ c.re) (hl : gLight a = true) (hq : (sSq (sTim a c).1).2 = true) (hr : (fTimes (sTim a c).1.a (sTim a c).1.a).2 = true) : gLight (sTim a c).1 = true := by
  obtain ⟨⟨he, hk⟩, hv⟩ := m4l_ok hg
  simp only [Bool.false_or, Bool.not_eq_false', Bool.and_eq_true] at he
  have hc2 := (rv_nonneg (realB_iff.1 he.2).1).2 hc
  have ic := real_iv he.2
  obtain ⟨s1, s2, s3, s4⟩ := light_iff.1 hl
  have hv' : (sTim a c).1 = m4f (sTimF a c) := hv
  have key : ∀ k, k < 4 → rv (sTimF a c k).1 = rv (a.get k) * rv c := by
    intro k h4
    have o := fTimes_ok.1 (pair_t (hk k h4))
    have : rv (sTimF a c k).1 = rv (a.get k) * rv c - iv (a.get k) * iv c := o.2.2.2.1
    rw [this, ic]; grind
  have k0 : rv (sTim a c).1.a = rv a.a * rv c := by rw [hv']; exact key 0 (by omega)
  have k1 : rv (sTim a c).1.b = rv a.b * rv c := by rw [hv']; exact key 1 (by omega)
  have k2 : rv (sTim a c).1.c = rv a.c * rv c := by rw [hv']; exact key 2 (by omega)
  have k3 : rv (sTim a c).1.d = rv a.d * rv c := by rw [hv']; exact key 3 (by omega)
  refine light_iff.2 ⟨hq, hr, ?_, ?_⟩
  · rw [k0, k1, k2, k3]
    have := Rat.mul_le_mul_of_nonneg_right s3 (sq_nn (rv c))
    grind
  · rw [k0]; exact Rat.mul_nonneg s4 hc2
/- Sums. -/
theorem cauchy {a0 a1 a2 a3 b0 b1 b2 b3 : Rat} (ha : a1 * a1 + a2 * a2 + a3 * a3 ≤ a0 * a0) (hb : b1 * b1 + b2 * b2 + b3 * b3 ≤ b0 * b0) (h0 : 0 ≤ a0) (h1 : 0 ≤ b0) :
    (a1 + b1) * (a1 + b1) + (a2 + b2) * (a2 + b2) + (a3 + b3) * (a3 + b3) ≤ (a0 + b0) * (a0 + b0) := by
  have key : a1 * b1 + a2 * b2 + a3 * b3 ≤ a0 * b0 := by
    apply Rat.not_lt.1
    intro h
    have hp := Rat.mul_nonneg h0 h1
    obtain ⟨S, hS⟩ : ∃ S, S = a1 * b1 + a2 * b2 + a3 * b3 := ⟨_, rfl⟩
    obtain ⟨T, hT⟩ : ∃ T, T = a0 * b0 := ⟨_, rfl⟩
    rw [← hS, ← hT] at h
    rw [← hT] at hp
    have hS0 : 0 < S := by grind
    have e1 : T * T ≤ T * S := Rat.mul_le_mul_of_nonneg_left (Rat.le_of_lt h) hp
    have e2 : T * S < S * S := Rat.mul_lt_mul_of_pos_right h hS0
    have l1 := sq_nn (a1 * b2 - a2 * b1)
    have l2 := sq_nn (a1 * b3 - a3 * b1)
    have l3 := sq_nn (a2 * b3 - a3 * b2)
    have hA : 0 ≤ a1 * a1 + a2 * a2 + a3 * a3 := by
      have := sq_nn a1
      have := sq_nn a2
      have := sq_nn a3
      grind
    have m1 : (a1 * a1 + a2 * a2 + a3 * a3) * (b1 * b1 + b2 * b2 + b3 * b3) ≤ (a1 * a1 + a2 * a2 + a3 * a3) * (b0 * b0) := Rat.mul_le_mul_of_nonneg_left hb hA
    have m2 : (a1 * a1 + a2 * a2 + a3 * a3) * (b0 * b0) ≤ (a0 * a0) * (b0 * b0) := Rat.mul_le_mul_of_nonneg_right ha (sq_nn b0)
    have hTT : T * T = (a0 * a0) * (b0 * b0) := by rw [hT]; grind
    have hSS : S * S + ((a1 * b2 - a2 * b1) * (a1 * b2 - a2 * b1) + (a1 * b3 - a3 * b1) * (a1 * b3 - a3 * b1) + (a2 * b3 - a3 * b2) * (a2 * b3 - a3 * b2)) = (a1 * a1 + a2 * a2 + a3 * a3) * (b1 * b1 + b2 * b2 + b3 * b3) := by rw [hS]; grind
    generalize (a1 * a1 + a2 * a2 + a3 * a3) * (b1 * b1 + b2 * b2 + b3 * b3) = X1 at *
    generalize (a1 * a1 + a2 * a2 + a3 * a3) * (b0 * b0) = X2 at *
    generalize (a0 * a0) * (b0 * b0) = X3 at *
    generalize (a1 * b2 - a2 * b1) * (a1 * b2 - a2 * b1) = Y1 at *
    generalize (a1 * b3 - a3 * b1) * (a1 * b3 - a3 * b1) = Y2 at *
    generalize (a2 * b3 - a3 * b2) * (a2 * b3 - a3 * b2) = Y3 at *
    generalize S * S = Z1 at *
    generalize T * T = Z2 at *
    generalize T * S = Z3 at *
    clear hS hT ha hb
    grind
  have : (a0 + b0) * (a0 + b0) - ((a1 + b1) * (a1 + b1) + (a2 + b2) * (a2 + b2) + (a3 + b3) * (a3 + b3)) = (a0 * a0 - (a1 * a1 + a2 * a2 + a3 * a3)) + (b0 * b0 - (b1 * b1 + b2 * b2 + b3 * b3)) + 2 * (a0 * b0 - (a1 * b1 + a2 * b2 + a3 * b3)) := by grind
  have g1 : 0 ≤ (a0 + b0) * (a0 + b0) - ((a1 + b1) * (a1 + b1) + (a2 + b2) * (a2 + b2) + (a3 + b3) * (a3 + b3)) := by
    rw [this]
    have q1 : 0 ≤ a0 * a0 - (a1 * a1 + a2 * a2 + a3 * a3) := (Rat.le_iff_sub_nonneg _ _).1 ha
    have q2 : 0 ≤ b0 * b0 - (b1 * b1 + b2 * b2 + b3 * b3) := (Rat.le_iff_sub_nonneg _ _).1 hb
    have q3 : 0 ≤ a0 * b0 - (a1 * b1 + a2 * b2 + a3 * b3) := (Rat.le_iff_sub_nonneg _ _).1 key
    generalize a0 * a0 - (a1 * a1 + a2 * a2 + a3 * a3) = X at *
    generalize b0 * b0 - (b1 * b1 + b2 * b2 + b3 * b3) = Y at *
    generalize a0 * b0 - (a1 * b1 + a2 * b2 + a3 * b3) = Z at *
    grind
  exact (Rat.le_iff_sub_nonneg _ _).2 g1
theorem fAdd_comm (a b : Fr) : fAdd a b = fAdd b a := by
  unfold fAdd
  rw [Bool.and_comm (vld a), Int.add_comm (a.re * b.den), Int.add_comm (a.im * b.den), Int.mul_comm a.den b.den]
theorem sAdd_comm (a b : M4) : sAdd a b = sAdd b a := by
  unfold sAdd
  rw [Bool.and_comm (all4 realB a)]
  have : sAddF a b = sAddF b a := funext fun k => fAdd_comm _ _
  rw [this]
theorem law_add {a b : M4} (hg : (sAdd a b).2 = true) (hl : gLight a = true) (hm : gLight b = true) (hq : (sSq (sAdd a b).1).2 = true) (hr : (fTimes (sAdd a b).1.a (sAdd a b).1.a).2 = true) : gLight (sAdd a b).1 = true := by
  obtain ⟨⟨he, hk⟩, hv⟩ := m4l_ok hg
  obtain ⟨s1, s2, s3, s4⟩ := light_iff.1 hl
  obtain ⟨t1, t2, t3, t4⟩ := light_iff.1 hm
  have hv' : (sAdd a b).1 = m4f (sAddF a b) := hv
  have key : ∀ k, k < 4 → rv (sAddF a b k).1 = rv (a.get k) + rv (b.get k) := fun k h4 => (fAdd_ok.1 (pair_t (hk k h4))).2.2.2.1
  have k0 : rv (sAdd a b).1.a = rv a.a + rv b.a := by rw [hv']; exact key 0 (by omega)
  have k1 : rv (sAdd a b).1.b = rv a.b + rv b.b := by rw [hv']; exact key 1 (by omega)
  have k2 : rv (sAdd a b).1.c = rv a.c + rv b.c := by rw [hv']; exact key 2 (by omega)
  have k3 : rv (sAdd a b).1.d = rv a.d + rv b.d := by rw [hv']; exact key 3 (by omega)
  refine light_iff.2 ⟨hq, hr, ?_, ?_⟩
  · rw [k0, k1, k2, k3]
    exact cauchy s3 t3 s4 t4
  · rw [k0]; exact Rat.add_nonneg s4 t4
end Go.Proofs.YtmcokdiopcpifaaDoor
