/- Plain facts: the vector of pure light. -/
import Derived.Test.YtmcokdiopcpifaaDoorQD
import Derived.Test.YtmcokdiopcpifaaDoorQE
import Derived.Test.YtmcokdiopcpifaaDoorEQ2
import Derived.Test.YtmcokdiopcpifaaDoorQM
import Derived.Test.YtmcokdiopcpifaaDoorSF
import Derived.Test.YtmcokdiopcpifaaDoorPV
set_option maxRecDepth 100000
namespace Go.Proofs.YtmcokdiopcpifaaDoor
open Pol

def mZ : M4 := ⟨f0, f0, f0, f0⟩
def pNi : Fr := ⟨0, -1, 1⟩
def f2' : Fr := ⟨2, 0, 1⟩
/-- The reference's way. -/
def gVecS (a : M4) : J2 × Bool :=
  if (gPure a && !(a.a.re == 0)) = true then
    (if ((fAdd a.a a.b).2 && (low (2 * a.a.re) 0 a.a.den).2 && (fTimes a.d pNi).2) = true then
      (if ((fAdd a.a a.b).1.re == 0) = true then (⟨f0, (low (2 * a.a.re) 0 a.a.den).1⟩, true)
       else (if (fAdd a.c (fTimes a.d pNi).1).2 = true then (⟨(fAdd a.a a.b).1, (fAdd a.c (fTimes a.d pNi).1).1⟩, true) else (j2z, false)))
     else (j2z, false))
  else (j2z, false)
/-- The program's way. -/
def gVec (a : M4) : J2 × Bool :=
  if (gPure a && !(m4B a mZ)) = true then
    (if (fAdd a.a a.b).2 = true then
      (if frB (fAdd a.a a.b).1 f0 = true then (⟨f0, (fTimes f2' a.a).1⟩, true)
       else (if (fLess a.c (fTimes a.d pI).1).2 = true then (⟨(fAdd a.a a.b).1, (fLess a.c (fTimes a.d pI).1).1⟩, true) else (j2z, false)))
     else (j2z, false))
  else (j2z, false)
theorem real_eq0 {f : Fr} (h : realB f = true) (k : rv f = 0) : f = f0 := val_inj (realB_iff.1 h).1 vld_f0 (by rw [k, rv_f0]) (by rw [real_iv h, iv_f0])
theorem sq0 {x y z : Rat} (h : x * x + y * y + z * z = 0) : x = 0 ∧ y = 0 ∧ z = 0 := by
  have a := sq_nn x
  have b := sq_nn y
  have c := sq_nn z
  have hx : x * x = 0 := by grind
  have hy : y * y = 0 := by grind
  have hz : z * z = 0 := by grind
  refine ⟨?_, ?_, ?_⟩
  · rcases Rat.mul_eq_zero.1 hx with h | h <;> exact h
  · rcases Rat.mul_eq_zero.1 hy with h | h <;> exact h
  · rcases Rat.mul_eq_zero.1 hz with h | h <;> exact h
theorem pure_parts {a : M4} (h : gPure a = true) : all4 realB a = true ∧ (fTimes a.a a.a).2 = true ∧ rv a.b * rv a.b + rv a.c * rv a.c + rv a.d * rv a.d = rv a.a * rv a.a ∧ 0 ≤ rv a.a := by
  obtain ⟨s1, s2, s3, s4⟩ := pure_iff.1 h
  exact ⟨(sSq_ok s1).1, s2, s3, s4⟩
theorem pure_zero {a : M4} (h : gPure a = true) : m4B a mZ = (a.a.re == 0) := by
  obtain ⟨hr, -, h3, -⟩ := pure_parts h
  obtain ⟨ra, rb, rc, rd⟩ := all4_iff.1 hr
  rw [Bool.eq_iff_iff, m4B_iff, beq_iff_eq]
  constructor
  · intro e; rw [e]; rfl
  · intro e
    have va := (rv_zero (realB_iff.1 ra).1).2 e
    rw [va] at h3
    obtain ⟨e1, e2, e3⟩ := sq0 (x := rv a.b) (y := rv a.c) (z := rv a.d) (by rw [h3]; grind)
    exact m4E_ext (real_eq0 ra va) (real_eq0 rb e1) (real_eq0 rc e2) (real_eq0 rd e3)
theorem re_small {a : Fr} (hr : realB a = true) (h : (fTimes a a).2 = true) : -50000 ≤ a.re ∧ a.re ≤ 50000 := by
  obtain ⟨hv, hi⟩ := realB_iff.1 hr
  have hd := vld_den hv
  have hg : g3 a.re 0 a.den = 1 := by have := ((vld_iff a).1 hv).2.2.2; rwa [hi] at this
  have hg' : Int.gcd a.re a.den = 1 := by
    unfold g3 at hg
    rw [gc_zero, gc_abs_left] at hg
    unfold gc at hg
    omega
  have hg2 : g3 (a.re * a.re) 0 (a.den * a.den) = 1 := by
    unfold g3
    rw [gc_zero, gc_abs_left]
    unfold gc
    have : Int.gcd (a.re * a.re) (a.den * a.den) = 1 := by
      unfold Int.gcd at hg' ⊢
      rw [Int.natAbs_mul, Int.natAbs_mul]
      have hc : Nat.Coprime a.re.natAbs a.den.natAbs := hg'
      exact (hc.mul_left hc).mul_right (hc.mul_left hc)
    rw [this]; rfl
  have et : fTimes a a = low (a.re * a.re) 0 (a.den * a.den) := by
    unfold fTimes
    rw [hv, hi]
    simp
  rw [et] at h
  have hB : lowB (a.re * a.re) 0 (a.den * a.den) = true := by
    cases hh : lowB (a.re * a.re) 0 (a.den * a.den)
    · unfold low at h; rw [if_neg (by rw [hh]; simp)] at h; cases h
    · rfl
  unfold lowB cut inP at hB
  rw [hg2] at hB
  simp only [Int.tdiv_one, Bool.and_eq_true, decide_eq_true_eq] at hB
  have h1 := hB.1.1.2
  have h2 : (a.re * a.re).natAbs ≤ 2000000000 := by
    have := sqn a.re
    omega
  rw [Int.natAbs_mul] at h2
  rcases Nat.lt_or_ge 50000 a.re.natAbs with hlt | hge
  · have : 50000 * 50000 ≤ a.re.natAbs * a.re.natAbs := Nat.mul_le_mul (by omega) (by omega)
    omega
  · omega
theorem twice_ok {a : Fr} (hr : realB a = true) (h : (fTimes a a).2 = true) : low (2 * a.re) 0 a.den = ((low (2 * a.re) 0 a.den).1, true) ∧ fTimes f2' a = ((low (2 * a.re) 0 a.den).1, true) := by
  obtain ⟨b1, b2⟩ := re_small hr h
  obtain ⟨hv, hi⟩ := realB_iff.1 hr
  have hd := ((vld_iff a).1 hv).2.2.1
  obtain ⟨e, v, r, i⟩ := lowE_small (re := 2 * a.re) (den := a.den) (by omega) (by omega) hd.1 hd.2
  refine ⟨e, fTimes_ok.2 ⟨by decide, hv, v, ?_, ?_⟩⟩
  · rw [r]
    have e2 : rv f2' = 2 := by show ((2 : Int) : Rat) / ((1 : Int) : Rat) = 2; grind
    have e3 : iv f2' = 0 := by show ((0 : Int) : Rat) / ((1 : Int) : Rat) = 0; grind
    rw [e2, e3, Rat.intCast_mul]
    show (2 : Rat) * (a.re : Rat) / (a.den : Rat) = 2 * ((a.re : Rat) / (a.den : Rat)) - 0 * iv a
    grind
  · rw [i]
    have e2 : rv f2' = 2 := by show ((2 : Int) : Rat) / ((1 : Int) : Rat) = 2; grind
    have e3 : iv f2' = 0 := by show ((0 : Int) : Rat) / ((1 : Int) : Rat) = 0; grind
    rw [e2, e3, real_iv hr]; grind
theorem turn_i {a : Fr} (h : vld a = true) : fTimes a pI = (⟨-a.im, a.re, a.den⟩, true) := by
  have e2 : rv pI = 0 := by show ((0 : Int) : Rat) / ((1 : Int) : Rat) = 0; grind
  have e3 : iv pI = 1 := by show ((1 : Int) : Rat) / ((1 : Int) : Rat) = 1; grind
  exact fTimes_ok.2 ⟨h, by decide, vldE_turn h, by rw [turnE_rv, e2, e3]; grind, by show rv a = _; rw [e2, e3]; grind⟩
theorem turn_n {a : Fr} (h : vld a = true) : fTimes a pNi = (fNeg ⟨-a.im, a.re, a.den⟩, true) := by
  have e2 : rv pNi = 0 := by show ((0 : Int) : Rat) / ((1 : Int) : Rat) = 0; grind
  have e3 : iv pNi = -1 := by show ((-1 : Int) : Rat) / ((1 : Int) : Rat) = -1; grind
  exact fTimes_ok.2 ⟨h, by decide, (vld_neg _).trans (vldE_turn h), by rw [fnegE_rv, turnE_rv, e2, e3]; grind, by rw [fnegE_iv, e2, e3]; show -(rv a) = _; grind⟩
theorem less_add {c u : Fr} (hu : vld u = true) : fLess c u = fAdd c (fNeg u) := by
  have hn : vld (fNeg u) = true := (vld_neg u).trans hu
  cases h : (fAdd c (fNeg u)).2
  · rw [fAdd_no _ _ h]
    cases k : (fLess c u).2
    · exact fLess_no _ _ k
    · obtain ⟨v1, v2, v3, r, i⟩ := fLess_ok.1 (pair_t k)
      have := fAdd_ok.2 ⟨v1, hn, v3, by rw [r, fnegE_rv]; grind, by rw [i, fnegE_iv]; grind⟩
      rw [this] at h; cases h
  · obtain ⟨v1, v2, v3, r, i⟩ := fAdd_ok.1 (pair_t h)
    rw [pair_t h]
    exact fLess_ok.2 ⟨v1, hu, v3, by rw [r, fnegE_rv]; grind, by rw [i, fnegE_iv]; grind⟩
theorem gVec_eq (a : M4) : gVecS a = gVec a := by
  unfold gVecS gVec
  cases hp : gPure a
  · rfl
  obtain ⟨hr, ht, -, -⟩ := pure_parts hp
  obtain ⟨ra, rb, rc, rd⟩ := all4_iff.1 hr
  rw [pure_zero hp]
  obtain ⟨t1, t2⟩ := twice_ok ra ht
  have vd := (realB_iff.1 rd).1
  rw [t2, turn_i vd, turn_n vd, t1, less_add (vldE_turn vd)]
  simp only [Bool.and_true]
  cases hs : (fAdd a.a a.b).2
  · rfl
  have hx : realB (fAdd a.a a.b).1 = true := by
    obtain ⟨-, -, v, r, i⟩ := fAdd_ok.1 (pair_t hs)
    exact real_of v (by rw [i, real_iv ra, real_iv rb]; grind)
  have he : ((fAdd a.a a.b).1.re == 0) = frB (fAdd a.a a.b).1 f0 := by
    rw [Bool.eq_iff_iff, frB_iff, beq_iff_eq]
    constructor
    · intro e; exact real_eq0 hx ((rv_zero (realB_iff.1 hx).1).2 e)
    · intro e; rw [e]; rfl
  rw [he]
end Go.Proofs.YtmcokdiopcpifaaDoor
