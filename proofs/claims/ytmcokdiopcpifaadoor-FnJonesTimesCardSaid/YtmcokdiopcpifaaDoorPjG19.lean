/- Plain facts: real fractions and their values. -/
import Derived.Test.YtmcokdiopcpifaaDoorPjPlain
import Derived.Test.YtmcokdiopcpifaaDoorPjS3
import Derived.Test.YtmcokdiopcpifaaDoorPjG8
import Derived.Test.YtmcokdiopcpifaaDoorPjG16
import Derived.Test.YtmcokdiopcpifaaDoorPjSF
import Derived.Test.YtmcokdiopcpifaaDoorPjL
import Derived.Test.YtmcokdiopcpifaaDoorPjG10
set_option maxRecDepth 100000
namespace Go.Proofs.YtmcokdiopcpifaaDoor
open Pol
theorem realB_iff {a : Fr} : realB a = true ↔ vld a = true ∧ a.im = 0 := by unfold realB; simp
theorem real_iv {a : Fr} (h : realB a = true) : iv a = 0 := (iv_zero (realB_iff.1 h).1).2 (realB_iff.1 h).2
theorem real_of {a : Fr} (h : vld a = true) (hi : iv a = 0) : realB a = true := realB_iff.2 ⟨h, (iv_zero h).1 hi⟩
theorem den_pos {a : Fr} (h : vld a = true) : (0 : Rat) < (a.den : Rat) := by
  have h1 := vld_den h
  have h2 : ((0 : Int) : Rat) < (a.den : Rat) := Rat.intCast_lt_intCast.2 (by omega)
  simpa using h2
theorem rv_mul {a : Fr} (h : vld a = true) : rv a * (a.den : Rat) = (a.re : Rat) := by
  have := vld_cast h
  unfold rv; grind
theorem rv_le {a b : Fr} (ha : vld a = true) (hb : vld b = true) : rv a ≤ rv b ↔ a.re * b.den ≤ b.re * a.den := by
  have h1 := den_pos ha
  have h2 := den_pos hb
  have e1 := rv_mul ha
  have e2 := rv_mul hb
  have h3 : 0 < (a.den : Rat) * (b.den : Rat) := Rat.mul_pos h1 h2
  rw [← Rat.intCast_le_intCast, Rat.intCast_mul, Rat.intCast_mul, ← e1, ← e2]
  have s1 : rv a * (a.den : Rat) * (b.den : Rat) = rv a * ((a.den : Rat) * (b.den : Rat)) := by grind
  have s2 : rv b * (b.den : Rat) * (a.den : Rat) = rv b * ((a.den : Rat) * (b.den : Rat)) := by grind
  rw [s1, s2]
  constructor
  · intro h; exact Rat.mul_le_mul_of_nonneg_right h (Rat.le_of_lt h3)
  · intro h
    apply Rat.not_lt.1
    intro h'
    exact Rat.not_le.2 ((Rat.mul_lt_mul_right h3).2 h') h
theorem vld_f0 : vld f0 = true := by decide
theorem rv_f0 : rv f0 = 0 := (rv_zero vld_f0).2 rfl
theorem iv_f0 : iv f0 = 0 := (iv_zero vld_f0).2 rfl
theorem rv_nonneg {a : Fr} (ha : vld a = true) : 0 ≤ rv a ↔ 0 ≤ a.re := by
  have h := rv_le vld_f0 ha
  rw [rv_f0] at h
  rw [h]
  show 0 * a.den ≤ a.re * 1 ↔ _
  omega
theorem sq_nn (a : Rat) : 0 ≤ a * a := by
  rcases (Rat.le_total : (0 : Rat) ≤ a ∨ a ≤ 0) with h | h
  · exact Rat.mul_nonneg h h
  · have h1 : 0 ≤ -a := by grind
    have := Rat.mul_nonneg h1 h1
    grind
end Go.Proofs.YtmcokdiopcpifaaDoor
namespace Go.Proofs.YtmcokdiopcpifaaDoor
open Pol
theorem sSq_ok {a : M4} (h : (sSq a).2 = true) : all4 realB a = true ∧ realB (sSq a).1 = true ∧ rv (sSq a).1 = rv a.b * rv a.b + rv a.c * rv a.c + rv a.d * rv a.d := by
  have hv : (fAdd (fAdd (fTimes a.b a.b).1 (fTimes a.c a.c).1).1 (fTimes a.d a.d).1).1 = (sSq a).1 := (gt_end fz _ _).2 h
  have he := (gt_end fz (((((((false || !all4 realB a) || !(fTimes a.b a.b).2) || !(fTimes a.c a.c).2) || !(fAdd (fTimes a.b a.b).1 (fTimes a.c a.c).1).2) || !(fTimes a.d a.d).2) || !(fAdd (fAdd (fTimes a.b a.b).1 (fTimes a.c a.c).1).1 (fTimes a.d a.d).1).2)) (fAdd (fAdd (fTimes a.b a.b).1 (fTimes a.c a.c).1).1 (fTimes a.d a.d).1).1).1
  have h' : (!(sSq a).2) = false := by rw [h]; rfl
  have he' := he.trans h'
  simp only [Bool.false_or, Bool.or_eq_false_iff, Bool.not_eq_false'] at he'
  obtain ⟨⟨⟨⟨⟨ha, t1⟩, t2⟩, n2⟩, t3⟩, n3⟩ := he'
  have hr := all4_iff.1 ha
  have o1 := fTimes_ok.1 (pair_t t1)
  have o2 := fTimes_ok.1 (pair_t t2)
  have o3 := fTimes_ok.1 (pair_t t3)
  have p2 := fAdd_ok.1 (pair_t n2)
  have p3 := fAdd_ok.1 (pair_t n3)
  have ib := real_iv hr.2.1
  have ic := real_iv hr.2.2.1
  have id' := real_iv hr.2.2.2
  have w1 : iv (fTimes a.b a.b).1 = 0 := by rw [o1.2.2.2.2, ib]; grind
  have w2 : iv (fTimes a.c a.c).1 = 0 := by rw [o2.2.2.2.2, ic]; grind
  have w3 : iv (fTimes a.d a.d).1 = 0 := by rw [o3.2.2.2.2, id']; grind
  have w4 : iv (fAdd (fTimes a.b a.b).1 (fTimes a.c a.c).1).1 = 0 := by rw [p2.2.2.2.2, w1, w2]; grind
  refine ⟨ha, ?_, ?_⟩
  · rw [← hv]
    exact real_of p3.2.2.1 (by rw [p3.2.2.2.2, w4, w3]; grind)
  · rw [← hv, p3.2.2.2.1, p2.2.2.2.1, o1.2.2.2.1, o2.2.2.2.1, o3.2.2.2.1, ib, ic, id']; grind
theorem sq_ok {a : Fr} (hr : realB a = true) (h : (fTimes a a).2 = true) : realB (fTimes a a).1 = true ∧ rv (fTimes a a).1 = rv a * rv a := by
  have o := fTimes_ok.1 (pair_t h)
  have i := real_iv hr
  exact ⟨real_of o.2.2.1 (by rw [o.2.2.2.2, i]; grind), by rw [o.2.2.2.1, i]; grind⟩
theorem sgn_nn (n : Int) : 0 ≤ sgn n ↔ 0 ≤ n := by unfold sgn; split <;> (try split) <;> omega
theorem sgn_z (n : Int) : sgn n = 0 ↔ n = 0 := by unfold sgn; split <;> (try split) <;> omega
theorem rest_ok {a : M4} (h1 : (sSq a).2 = true) (h2 : (fTimes a.a a.a).2 = true) : (gRest a).2 = true ∧ (0 ≤ (gRest a).1 ↔ rv a.b * rv a.b + rv a.c * rv a.c + rv a.d * rv a.d ≤ rv a.a * rv a.a) ∧ ((gRest a).1 = 0 ↔ rv a.b * rv a.b + rv a.c * rv a.c + rv a.d * rv a.d = rv a.a * rv a.a) := by
  obtain ⟨ha, hq, hv⟩ := sSq_ok h1
  obtain ⟨hp, hw⟩ := sq_ok (all4_iff.1 ha).1 h2
  have vq := (realB_iff.1 hq).1
  have vp := (realB_iff.1 hp).1
  have e : gRest a = (sgn ((fTimes a.a a.a).1.re * (sSq a).1.den - (sSq a).1.re * (fTimes a.a a.a).1.den), true) := by
    unfold gRest fCmp
    simp [h1, h2, hp, hq]
  have l1 := rv_le vq vp
  have l2 := rv_le vp vq
  rw [hv, hw] at l1 l2
  rw [e]
  refine ⟨rfl, ?_, ?_⟩
  · rw [sgn_nn, l1]
    constructor <;> intro h <;> omega
  · rw [sgn_z]
    constructor
    · intro h
      have a1 := l1.2 (by omega)
      have a2 := l2.2 (by omega)
      exact Rat.le_antisymm a1 a2
    · intro h
      have a1 := l1.1 (by rw [h]; exact Rat.le_refl)
      have a2 := l2.1 (by rw [h]; exact Rat.le_refl)
      omega
theorem rest_told {a : M4} (h : (gRest a).2 = true) : (sSq a).2 = true ∧ (fTimes a.a a.a).2 = true := by
  unfold gRest at h
  split at h
  · next hh => simpa using hh
  · cases h
theorem light_iff {a : M4} : gLight a = true ↔ (sSq a).2 = true ∧ (fTimes a.a a.a).2 = true ∧ rv a.b * rv a.b + rv a.c * rv a.c + rv a.d * rv a.d ≤ rv a.a * rv a.a ∧ 0 ≤ rv a.a := by
  unfold gLight
  simp only [Bool.and_eq_true, decide_eq_true_eq]
  constructor
  · rintro ⟨⟨h1, h2⟩, h3⟩
    obtain ⟨s1, s2⟩ := rest_told h1
    have hr := (all4_iff.1 (sSq_ok s1).1).1
    exact ⟨s1, s2, (rest_ok s1 s2).2.1.1 h2, (rv_nonneg (realB_iff.1 hr).1).2 h3⟩
  · rintro ⟨s1, s2, h3, h4⟩
    have hr := (all4_iff.1 (sSq_ok s1).1).1
    exact ⟨⟨(rest_ok s1 s2).1, (rest_ok s1 s2).2.1.2 h3⟩, (rv_nonneg (realB_iff.1 hr).1).1 h4⟩
theorem pure_iff {a : M4} : gPure a = true ↔ (sSq a).2 = true ∧ (fTimes a.a a.a).2 = true ∧ rv a.b * rv a.b + rv a.c * rv a.c + rv a.d * rv a.d = rv a.a * rv a.a ∧ 0 ≤ rv a.a := by
  unfold gPure
  simp only [Bool.and_eq_true, decide_eq_true_eq]
  constructor
  · rintro ⟨⟨h1, h2⟩, h3⟩
    obtain ⟨s1, s2⟩ := rest_told h1
    have hr := (all4_iff.1 (sSq_ok s1).1).1
    exact ⟨s1, s2, (rest_ok s1 s2).2.2.1 h2, (rv_nonneg (realB_iff.1 hr).1).2 h3⟩
  · rintro ⟨s1, s2, h3, h4⟩
    have hr := (all4_iff.1 (sSq_ok s1).1).1
    exact ⟨⟨(rest_ok s1 s2).1, (rest_ok s1 s2).2.2.2 h3⟩, (rv_nonneg (realB_iff.1 hr).1).1 h4⟩
end Go.Proofs.YtmcokdiopcpifaaDoor
namespace Go.Proofs.YtmcokdiopcpifaaDoor
open Pol
theorem tdivE_small {a g b : Int} (_hg : 1 ≤ g) (h1 : -b ≤ a) (h2 : a ≤ b) : -b ≤ a.tdiv g ∧ a.tdiv g ≤ b := by
  have h : (a.tdiv g).natAbs ≤ a.natAbs := by rw [Int.natAbs_tdiv]; exact Nat.div_le_self _ _
  omega
theorem lowE_small {re den : Int} (h1 : -2000000000 ≤ re) (h2 : re ≤ 2000000000) (h3 : 1 ≤ den) (h4 : den ≤ 2000000000) : low re 0 den = ((low re 0 den).1, true) ∧ vld (low re 0 den).1 = true ∧ rv (low re 0 den).1 = (re : Rat) / (den : Rat) ∧ iv (low re 0 den).1 = 0 := by
  have hg := g3_pos re 0 den h3
  have hB : lowB re 0 den = true := by
    unfold lowB inP cut
    have a1 := tdivE_small hg (a := re) (b := 2000000000) h1 h2
    have a2 := tdivE_small hg (a := 0) (b := 2000000000) (by omega) (by omega)
    have a3 := tdivE_small hg (a := den) (b := 2000000000) (by omega) h4
    simp only [Bool.and_eq_true, decide_eq_true_eq]
    exact ⟨⟨a1, a2⟩, a3.2⟩
  have e : low re 0 den = (cut re 0 den, true) := by unfold low; rw [if_pos hB]
  rw [e]
  obtain ⟨k1, k2, k3⟩ := (low_ok h3).1 e
  exact ⟨rfl, k1, k2, by rw [k3]; show ((0 : Int) : Rat) / _ = 0; rw [Rat.div_def]; exact Rat.zero_mul _⟩
theorem g3E_swap (a b c : Int) : g3 b a c = g3 a b c := by unfold g3; rw [gc_comm b a]
theorem vldE_turn {a : Fr} (h : vld a = true) : vld ⟨-a.im, a.re, a.den⟩ = true := by
  obtain ⟨h1, h2, h3, h4⟩ := (vld_iff a).1 h
  exact (vld_iff _).2 ⟨⟨by show _ ≤ -a.im; omega, by show -a.im ≤ _; omega⟩, h1, h3, by show g3 (-a.im) a.re a.den = 1; rw [g3_neg_re, g3E_swap]; exact h4⟩
theorem turnE_rv (a : Fr) : rv ⟨-a.im, a.re, a.den⟩ = - iv a := by
  show ((-a.im : Int) : Rat) / (a.den : Rat) = -((a.im : Rat) / (a.den : Rat))
  rw [Rat.intCast_neg, Rat.div_def, Rat.div_def, Rat.neg_mul]
theorem m4E_ext {m n : M4} (h1 : m.a = n.a) (h2 : m.b = n.b) (h3 : m.c = n.c) (h4 : m.d = n.d) : m = n := by
  obtain ⟨a, b, c, d⟩ := m
  obtain ⟨a', b', c', d'⟩ := n
  simp only at h1 h2 h3 h4
  rw [h1, h2, h3, h4]
end Go.Proofs.YtmcokdiopcpifaaDoor
namespace Go.Proofs.YtmcokdiopcpifaaDoor
open Go.RowKit Pol
def frB (a b : Fr) : Bool := a.re == b.re && (a.im == b.im && a.den == b.den)
theorem frB_iff {a b : Fr} : frB a b = true ↔ a = b := by
  obtain ⟨a1, a2, a3⟩ := a
  obtain ⟨b1, b2, b3⟩ := b
  simp [frB]
def m4B (m n : M4) : Bool := frB m.a n.a && (frB m.b n.b && (frB m.c n.c && frB m.d n.d))
theorem m4B_iff {m n : M4} : m4B m n = true ↔ m = n := by
  obtain ⟨a1, a2, a3, a4⟩ := m
  obtain ⟨b1, b2, b3, b4⟩ := n
  simp [m4B, frB_iff]
set_option maxRecDepth 100000 in
theorem eqFr_run (a b : Fr) (d : Nat) (w : World) : (Op.equalIn (d + 2) 23 (.agg #[.int .i64 a.re, .int .i64 a.im, .int .i64 a.den]) (.agg #[.int .i64 b.re, .int .i64 b.im, .int .i64 b.den])).run Tryd.prog w = .ok (frB a b) w := by
  rw [run_equalIn_agg w (d + 1) 23 _ _ (by kernel_rfl) (by kernel_rfl)]
  by_cases h1 : a.re = b.re <;> by_cases h2 : a.im = b.im <;> by_cases h3 : a.den = b.den <;> simp [go_sem, Tryd.underlying23, frB, h1, h2, h3]
set_option maxRecDepth 100000 in
theorem eqPl_step (d : Nat) (xs ys : Array Value) (i : Nat) (is : List Nat) (a b : Fr) (w : World) (hx : (part 23 xs (i * 3)).run Tryd.prog w = .ok (.agg #[.int .i64 a.re, .int .i64 a.im, .int .i64 a.den]) w) (hy : (part 23 ys (i * 3)).run Tryd.prog w = .ok (.agg #[.int .i64 b.re, .int .i64 b.im, .int .i64 b.den]) w) :
    (eqPlaces (d + 2) 23 3 xs ys (i :: is)).run Tryd.prog w = if frB a b = true then (eqPlaces (d + 2) 23 3 xs ys is).run Tryd.prog w else .ok false w := by
  simp only [eqPlaces, Sem.run_bind, hx, hy, Result.andThen_ok, eqFr_run a b d w, Sem.run_ite]
  cases frB a b <;> simp
set_option maxRecDepth 100000 in
theorem eqArr_run (m n : M4) (d : Nat) (w : World) : (Op.equalIn (d + 3) 39 (.agg #[.int .i64 m.a.re, .int .i64 m.a.im, .int .i64 m.a.den, .int .i64 m.b.re, .int .i64 m.b.im, .int .i64 m.b.den, .int .i64 m.c.re, .int .i64 m.c.im, .int .i64 m.c.den, .int .i64 m.d.re, .int .i64 m.d.im, .int .i64 m.d.den]) (.agg #[.int .i64 n.a.re, .int .i64 n.a.im, .int .i64 n.a.den, .int .i64 n.b.re, .int .i64 n.b.im, .int .i64 n.b.den, .int .i64 n.c.re, .int .i64 n.c.im, .int .i64 n.c.den, .int .i64 n.d.re, .int .i64 n.d.im, .int .i64 n.d.den])).run Tryd.prog w = .ok (m4B m n) w := by
  rw [run_equalIn_array w (d + 2) 39 23 4 3 _ _ Tryd.underlying39 (by rfl)]
  show (eqPlaces (d + 2) 23 3 _ _ [0, 1, 2, 3]).run Tryd.prog w = _
  rw [eqPl_step d _ _ 0 _ m.a n.a w (by simp [go_sem]) (by simp [go_sem]), eqPl_step d _ _ 1 _ m.b n.b w (by simp [go_sem]) (by simp [go_sem]), eqPl_step d _ _ 2 _ m.c n.c w (by simp [go_sem]) (by simp [go_sem]), eqPl_step d _ _ 3 _ m.d n.d w (by simp [go_sem]) (by simp [go_sem])]
  unfold m4B
  cases frB m.a n.a <;> cases frB m.b n.b <;> cases frB m.c n.c <;> cases frB m.d n.d <;> simp [eqPlaces]
end Go.Proofs.YtmcokdiopcpifaaDoor
namespace Go.Proofs.YtmcokdiopcpifaaDoor
open Pol
def fConj (a : Fr) : Fr := ⟨a.re, -a.im, a.den⟩
theorem mirror_y {a : Fr} (h : vld a = true) : fMirror a = (fConj a, true) := by unfold fMirror; rw [if_pos h]; rfl
theorem conj_iv (a : Fr) : iv (fConj a) = - iv a := by
  unfold iv fConj
  show ((-a.im : Int) : Rat) / (a.den : Rat) = _
  rw [Rat.intCast_neg, Rat.div_def, Rat.div_def, Rat.neg_mul]
theorem sOf_parts {a : J2} {u : M4} (h : sOf a = (u, true)) : ((fPower a.x).2 = true ∧ (fPower a.y).2 = true ∧ (fMirror a.y).2 = true) ∧ ((fTimes a.x (fMirror a.y).1).2 = true ∧ (fAdd (fPower a.x).1 (fPower a.y).1).2 = true ∧ (fLess (fPower a.x).1 (fPower a.y).1).2 = true) ∧ ((low (2 * (fTimes a.x (fMirror a.y).1).1.re) 0 (fTimes a.x (fMirror a.y).1).1.den).2 = true ∧ (low (2 * (fTimes a.x (fMirror a.y).1).1.im) 0 (fTimes a.x (fMirror a.y).1).1.den).2 = true) ∧ u = ⟨(fAdd (fPower a.x).1 (fPower a.y).1).1, (fLess (fPower a.x).1 (fPower a.y).1).1, (low (2 * (fTimes a.x (fMirror a.y).1).1.re) 0 (fTimes a.x (fMirror a.y).1).1.den).1, (low (2 * (fTimes a.x (fMirror a.y).1).1.im) 0 (fTimes a.x (fMirror a.y).1).1.den).1⟩ := by
  unfold sOf at h
  split at h
  · next h1 =>
    split at h
    · next h2 =>
      split at h
      · next h3 =>
        simp only [Bool.and_eq_true] at h1 h2 h3
        exact ⟨⟨h1.1.1, h1.1.2, h1.2⟩, ⟨h2.1.1, h2.1.2, h2.2⟩, h3, (Prod.mk.inj h).1.symm⟩
      · cases h
    · cases h
  · cases h
end Go.Proofs.YtmcokdiopcpifaaDoor
namespace Go.Proofs.YtmcokdiopcpifaaDoor
open Pol
def mZ : M4 := ⟨f0, f0, f0, f0⟩
def f2' : Fr := ⟨2, 0, 1⟩
/-- The program's way. -/
def gVec (a : M4) : J2 × Bool :=
  if (gPure a && !(m4B a mZ)) = true then
    (if (fAdd a.a a.b).2 = true then
      (if frB (fAdd a.a a.b).1 f0 = true then (⟨f0, (fTimes f2' a.a).1⟩, true)
       else (if (fLess a.c (fTimes a.d pI).1).2 = true then (⟨(fAdd a.a a.b).1, (fLess a.c (fTimes a.d pI).1).1⟩, true) else (j2z, false)))
     else (j2z, false))
  else (j2z, false)
theorem real_eq0 {f : Fr} (h : realB f = true) (k : rv f = 0) : f = f0 := val_inj (realB_iff.1 h).1 vld_f0 (by rw [k, rv_f0]) (by rw [real_iv h, iv_f0])
theorem sq0 {x y z : Rat} (h : x * x + y * y + z * z = 0) : x = 0 ∧ y = 0 ∧ z = 0 := by
  have a := sq_nn x
  have b := sq_nn y
  have c := sq_nn z
  have hx : x * x = 0 := by grind
  have hy : y * y = 0 := by grind
  have hz : z * z = 0 := by grind
  refine ⟨?_, ?_, ?_⟩
  · rcases Rat.mul_eq_zero.1 hx with h | h <;> exact h
  · rcases Rat.mul_eq_zero.1 hy with h | h <;> exact h
  · rcases Rat.mul_eq_zero.1 hz with h | h <;> exact h
theorem pure_parts {a : M4} (h : gPure a = true) : all4 realB a = true ∧ (fTimes a.a a.a).2 = true ∧ rv a.b * rv a.b + rv a.c * rv a.c + rv a.d * rv a.d = rv a.a * rv a.a ∧ 0 ≤ rv a.a := by
  obtain ⟨s1, s2, s3, s4⟩ := pure_iff.1 h
  exact ⟨(sSq_ok s1).1, s2, s3, s4⟩
theorem pure_zero {a : M4} (h : gPure a = true) : m4B a mZ = (a.a.re == 0) := by
  obtain ⟨hr, -, h3, -⟩ := pure_parts h
  obtain ⟨ra, rb, rc, rd⟩ := all4_iff.1 hr
  rw [Bool.eq_iff_iff, m4B_iff, beq_iff_eq]
  constructor
  · intro e; rw [e]; rfl
  · intro e
    have va := (rv_zero (realB_iff.1 ra).1).2 e
    rw [va] at h3
    obtain ⟨e1, e2, e3⟩ := sq0 (x := rv a.b) (y := rv a.c) (z := rv a.d) (by rw [h3]; grind)
    exact m4E_ext (real_eq0 ra va) (real_eq0 rb e1) (real_eq0 rc e2) (real_eq0 rd e3)
theorem re_small {a : Fr} (hr : realB a = true) (h : (fTimes a a).2 = true) : -50000 ≤ a.re ∧ a.re ≤ 50000 := by
  obtain ⟨hv, hi⟩ := realB_iff.1 hr
  have hd := vld_den hv
  have hg : g3 a.re 0 a.den = 1 := by have := ((vld_iff a).1 hv).2.2.2; rwa [hi] at this
  have hg' : Int.gcd a.re a.den = 1 := by
    unfold g3 at hg
    rw [gc_zero, gc_abs_left] at hg
    unfold gc at hg
    omega
  have hg2 : g3 (a.re * a.re) 0 (a.den * a.den) = 1 := by
    unfold g3
    rw [gc_zero, gc_abs_left]
    unfold gc
    have : Int.gcd (a.re * a.re) (a.den * a.den) = 1 := by
      unfold Int.gcd at hg' ⊢
      rw [Int.natAbs_mul, Int.natAbs_mul]
      have hc : Nat.Coprime a.re.natAbs a.den.natAbs := hg'
      exact (hc.mul_left hc).mul_right (hc.mul_left hc)
    rw [this]; rfl
  have et : fTimes a a = low (a.re * a.re) 0 (a.den * a.den) := by
    unfold fTimes
    rw [hv, hi]
    simp
  rw [et] at h
  have hB : lowB (a.re * a.re) 0 (a.den * a.den) = true := by
    cases hh : lowB (a.re * a.re) 0 (a.den * a.den)
    · unfold low at h; rw [if_neg (by rw [hh]; simp)] at h; cases h
    · rfl
  unfold lowB cut inP at hB
  rw [hg2] at hB
  simp only [Int.tdiv_one, Bool.and_eq_true, decide_eq_true_eq] at hB
  have h1 := hB.1.1.2
  have h2 : (a.re * a.re).natAbs ≤ 2000000000 := by
    have := sqn a.re
    omega
  rw [Int.natAbs_mul] at h2
  rcases Nat.lt_or_ge 50000 a.re.natAbs with hlt | hge
  · have : 50000 * 50000 ≤ a.re.natAbs * a.re.natAbs := Nat.mul_le_mul (by omega) (by omega)
    omega
  · omega
theorem twice_ok {a : Fr} (hr : realB a = true) (h : (fTimes a a).2 = true) : low (2 * a.re) 0 a.den = ((low (2 * a.re) 0 a.den).1, true) ∧ fTimes f2' a = ((low (2 * a.re) 0 a.den).1, true) := by
  obtain ⟨b1, b2⟩ := re_small hr h
  obtain ⟨hv, hi⟩ := realB_iff.1 hr
  have hd := ((vld_iff a).1 hv).2.2.1
  obtain ⟨e, v, r, i⟩ := lowE_small (re := 2 * a.re) (den := a.den) (by omega) (by omega) hd.1 hd.2
  refine ⟨e, fTimes_ok.2 ⟨by decide, hv, v, ?_, ?_⟩⟩
  · rw [r]
    have e2 : rv f2' = 2 := by show ((2 : Int) : Rat) / ((1 : Int) : Rat) = 2; grind
    have e3 : iv f2' = 0 := by show ((0 : Int) : Rat) / ((1 : Int) : Rat) = 0; grind
    rw [e2, e3, Rat.intCast_mul]
    show (2 : Rat) * (a.re : Rat) / (a.den : Rat) = 2 * ((a.re : Rat) / (a.den : Rat)) - 0 * iv a
    grind
  · rw [i]
    have e2 : rv f2' = 2 := by show ((2 : Int) : Rat) / ((1 : Int) : Rat) = 2; grind
    have e3 : iv f2' = 0 := by show ((0 : Int) : Rat) / ((1 : Int) : Rat) = 0; grind
    rw [e2, e3, real_iv hr]; grind
theorem turn_i {a : Fr} (h : vld a = true) : fTimes a pI = (⟨-a.im, a.re, a.den⟩, true) := by
  have e2 : rv pI = 0 := by show ((0 : Int) : Rat) / ((1 : Int) : Rat) = 0; grind
  have e3 : iv pI = 1 := by show ((1 : Int) : Rat) / ((1 : Int) : Rat) = 1; grind
  exact fTimes_ok.2 ⟨h, by decide, vldE_turn h, by rw [turnE_rv, e2, e3]; grind, by show rv a = _; rw [e2, e3]; grind⟩
end Go.Proofs.YtmcokdiopcpifaaDoor
namespace Go.Proofs.YtmcokdiopcpifaaDoor
open Go.RowKit Pol
theorem rangeAt_nw {w : World} {L : List Value} {t : TypeId} {N : Nat} (h : w.heap.size = N) : (w.alloc (.cells L.toArray t)).rangeAt N 0 L := h ▸ rangeAt_new w L t
theorem cellsM {w : World} {N : Nat} {v0 v1 v2 v3 v4 v5 v6 v7 v8 v9 v10 v11 : Value} (h : w.rangeAt N 0 [v0, v1, v2, v3, v4, v5, v6, v7, v8, v9, v10, v11]) : w.cell? ⟨N, 0, none⟩ = some v0 ∧ w.cell? ⟨N, 1, none⟩ = some v1 ∧ w.cell? ⟨N, 2, none⟩ = some v2 ∧ w.cell? ⟨N, 3, none⟩ = some v3 ∧ w.cell? ⟨N, 4, none⟩ = some v4 ∧ w.cell? ⟨N, 5, none⟩ = some v5 ∧ w.cell? ⟨N, 6, none⟩ = some v6 ∧ w.cell? ⟨N, 7, none⟩ = some v7 ∧ w.cell? ⟨N, 8, none⟩ = some v8 ∧ w.cell? ⟨N, 9, none⟩ = some v9 ∧ w.cell? ⟨N, 10, none⟩ = some v10 ∧ w.cell? ⟨N, 11, none⟩ = some v11 :=
  ⟨by have := h 0 _ rfl; rwa [Nat.zero_add] at this, by have := h 1 _ rfl; rwa [Nat.zero_add] at this, by have := h 2 _ rfl; rwa [Nat.zero_add] at this, by have := h 3 _ rfl; rwa [Nat.zero_add] at this, by have := h 4 _ rfl; rwa [Nat.zero_add] at this, by have := h 5 _ rfl; rwa [Nat.zero_add] at this, by have := h 6 _ rfl; rwa [Nat.zero_add] at this, by have := h 7 _ rfl; rwa [Nat.zero_add] at this, by have := h 8 _ rfl; rwa [Nat.zero_add] at this, by have := h 9 _ rfl; rwa [Nat.zero_add] at this, by have := h 10 _ rfl; rwa [Nat.zero_add] at this, by have := h 11 _ rfl; rwa [Nat.zero_add] at this⟩
end Go.Proofs.YtmcokdiopcpifaaDoor
namespace Go.Proofs.YtmcokdiopcpifaaDoor
open Go.RowKit Pol
/-- What a call hands back that makes the two fractions of a direction. -/
def DirOut (p q : Int) (w : World) (e : Ending) (w' : World) : Prop :=
  e = .returned (if dirB p q = true then .tuple #[.agg #[.int .i64 (dC p q).re, .int .i64 (dC p q).im, .int .i64 (dC p q).den], .agg #[.int .i64 (dS p q).re, .int .i64 (dS p q).im, .int .i64 (dS p q).den], .bool true] else .tuple #[.agg #[.int .i64 0, .int .i64 0, .int .i64 0], .agg #[.int .i64 0, .int .i64 0, .int .i64 0], .bool false]) ∧ Below w.heap.size w w'
theorem DirOut.yes {p q : Int} {w w' : World} (h : dirB p q = true) (hb : Below w.heap.size w w') : DirOut p q w (.returned (.tuple #[.agg #[.int .i64 (dC p q).re, .int .i64 (dC p q).im, .int .i64 (dC p q).den], .agg #[.int .i64 (dS p q).re, .int .i64 (dS p q).im, .int .i64 (dS p q).den], .bool true])) w' := ⟨by rw [if_pos h], hb⟩
theorem DirOut.no {p q : Int} {w w' : World} (h : dirB p q = false) (hb : Below w.heap.size w w') : DirOut p q w (.returned (.tuple #[.agg #[.int .i64 0, .int .i64 0, .int .i64 0], .agg #[.int .i64 0, .int .i64 0, .int .i64 0], .bool false])) w' := ⟨by rw [if_neg (by rw [h]; simp)], hb⟩
end Go.Proofs.YtmcokdiopcpifaaDoor
namespace Go.Proofs.YtmcokdiopcpifaaDoor
open Go.RowKit Pol
theorem DirOut.f {p q : Int} {w w' : World} {e : Ending} (h : DirOut p q w e w') (hd : dirB p q = false) : e = .returned (.tuple #[.agg #[.int .i64 0, .int .i64 0, .int .i64 0], .agg #[.int .i64 0, .int .i64 0, .int .i64 0], .bool false]) ∧ Below w.heap.size w w' := ⟨by rw [h.1, if_neg (by rw [hd]; simp)], h.2⟩
theorem DirOut.t {p q : Int} {w w' : World} {e : Ending} (h : DirOut p q w e w') (hd : dirB p q = true) : e = .returned (.tuple #[.agg #[.int .i64 (dC p q).re, .int .i64 (dC p q).im, .int .i64 (dC p q).den], .agg #[.int .i64 (dS p q).re, .int .i64 (dS p q).im, .int .i64 (dS p q).den], .bool true]) ∧ Below w.heap.size w w' := ⟨by rw [h.1, if_pos hd], h.2⟩
theorem Room.drew {w : World} {N n : Nat} (h : Room w N n) : Room w.drew N n := h
end Go.Proofs.YtmcokdiopcpifaaDoor
