/- Plain facts: products across, alike numbers, alike matrices, alike vectors. No program is in sight. -/
import Derived.Test.YtmcokdiopcpifaaDoorPjG12
import Derived.Test.YtmcokdiopcpifaaDoorPjG19
set_option maxRecDepth 100000
namespace Go.Proofs.YtmcokdiopcpifaaDoor
open Pol
/-- Are two fractions the same? -/
def frEq (x y : Fr) : Bool := decide (x.re = y.re) && decide (x.im = y.im) && decide (x.den = y.den)
theorem frEq_iff {x y : Fr} : frEq x y = true ↔ x = y := by
  obtain ⟨a1, a2, a3⟩ := x
  obtain ⟨b1, b2, b3⟩ := y
  simp [frEq, and_assoc]
theorem frEq_comm (x y : Fr) : frEq x y = frEq y x := by
  rw [Bool.eq_iff_iff, frEq_iff, frEq_iff]; exact ⟨Eq.symm, Eq.symm⟩
def gpB (a b : M4) (i k : Nat) : Bool := (fTimes (a.get i) (b.get k)).2 && (fTimes (a.get k) (b.get i)).2 && frEq (fTimes (a.get i) (b.get k)).1 (fTimes (a.get k) (b.get i)).1
/-- The products across are the same. -/
def alB (a b : M4) : Bool := gpB a b 1 0 && gpB a b 2 0 && gpB a b 2 1 && gpB a b 3 0 && gpB a b 3 1 && gpB a b 3 2
theorem alB_all {a b : M4} (h : ∀ i k, k < i → i < 4 → gpB a b i k = true) : alB a b = true := by
  unfold alB
  rw [h 1 0 (by omega) (by omega), h 2 0 (by omega) (by omega), h 2 1 (by omega) (by omega), h 3 0 (by omega) (by omega), h 3 1 (by omega) (by omega), h 3 2 (by omega) (by omega)]; rfl
theorem alB_bad {a b : M4} {i k : Nat} (hk : k < i) (hi : i < 4) (h : gpB a b i k = false) : alB a b = false := by
  have : (i = 1 ∧ k = 0) ∨ (i = 2 ∧ k = 0) ∨ (i = 2 ∧ k = 1) ∨ (i = 3 ∧ k = 0) ∨ (i = 3 ∧ k = 1) ∨ (i = 3 ∧ k = 2) := by omega
  unfold alB
  rcases this with ⟨rfl, rfl⟩ | ⟨rfl, rfl⟩ | ⟨rfl, rfl⟩ | ⟨rfl, rfl⟩ | ⟨rfl, rfl⟩ | ⟨rfl, rfl⟩ <;> rw [h] <;> simp
theorem gpB_self (a b : M4) (i k : Nat) : gpB a b k i = gpB a b i k := by
  unfold gpB
  rw [frEq_comm]
  cases (fTimes (a.get i) (b.get k)).2 <;> cases (fTimes (a.get k) (b.get i)).2 <;> simp
theorem alB_bad2 {a b : M4} {i k : Nat} (hn : i ≠ k) (hi : i < 4) (hk : k < 4) (h : gpB a b i k = false) : alB a b = false := by
  rcases Nat.lt_or_ge k i with h1 | h1
  · exact alB_bad h1 hi h
  · exact alB_bad (i := k) (k := i) (by omega) hk (by rw [gpB_self]; exact h)
theorem tm_comm (a b : Fr) : fTimes a b = fTimes b a := by
  unfold fTimes
  rw [Bool.and_comm (vld a), Int.mul_comm a.den b.den, Int.mul_comm a.re b.re, Int.mul_comm a.im b.im, Int.mul_comm a.re b.im, Int.mul_comm a.im b.re, Int.add_comm (b.im * a.re)]
/-- A product of small fractions is one. -/
def sm1 (f : Fr) : Bool := decide (-10000 < f.re ∧ f.re < 10000 ∧ -10000 < f.im ∧ f.im < 10000 ∧ f.den < 10000)
theorem tdiv_le {n g : Int} (_hg : 1 ≤ g) : (n.tdiv g).natAbs ≤ n.natAbs := by
  rw [Int.natAbs_tdiv]; exact Nat.div_le_self _ _
theorem mul_lt {a b : Int} (h : a.natAbs < 10000) (k : b.natAbs < 10000) : (a * b).natAbs ≤ 99980001 := by
  rw [Int.natAbs_mul]
  have := Nat.mul_le_mul (show a.natAbs ≤ 9999 by omega) (show b.natAbs ≤ 9999 by omega)
  omega
theorem low_in {re im den : Int} (h1 : re.natAbs ≤ 2000000000) (h2 : im.natAbs ≤ 2000000000) (h3 : 1 ≤ den) (h4 : den ≤ 2000000000) : (low re im den).2 = true := by
  have hg := g3_pos re im den h3
  have e1 := tdiv_le (n := re) hg
  have e2 := tdiv_le (n := im) hg
  have e3 := tdiv_le (n := den) hg
  have hb : lowB re im den = true := by
    unfold lowB cut inP
    simp only [Bool.and_eq_true, decide_eq_true_eq]
    omega
  unfold low; rw [if_pos hb]
theorem sm_times {a b : Fr} (ha : vld a = true) (hb : vld b = true) (h : sm1 a = true) (k : sm1 b = true) : (fTimes a b).2 = true := by
  unfold sm1 at h k
  simp only [decide_eq_true_eq] at h k
  have d1 := vld_den ha
  have d2 := vld_den hb
  have e1 := mul_lt (a := a.re) (b := b.re) (by omega) (by omega)
  have e2 := mul_lt (a := a.im) (b := b.im) (by omega) (by omega)
  have e3 := mul_lt (a := a.re) (b := b.im) (by omega) (by omega)
  have e4 := mul_lt (a := a.im) (b := b.re) (by omega) (by omega)
  have e5 := mul_lt (a := a.den) (b := b.den) (by omega) (by omega)
  have d3 := den_mul_pos ha hb
  unfold fTimes
  rw [if_pos (by rw [ha, hb]; rfl)]
  exact low_in (by omega) (by omega) d3 (by omega)
theorem times_eq {a b c d : Fr} (h1 : (fTimes a b).2 = true) (h2 : (fTimes c d).2 = true) (e1 : rv a * rv b - iv a * iv b = rv c * rv d - iv c * iv d) (e2 : rv a * iv b + iv a * rv b = rv c * iv d + iv c * rv d) : (fTimes a b).1 = (fTimes c d).1 := by
  obtain ⟨-, -, v1, r1, i1⟩ := fTimes_ok.1 (pair_t h1)
  obtain ⟨-, -, v2, r2, i2⟩ := fTimes_ok.1 (pair_t h2)
  exact val_inj v1 v2 (r1.trans (e1.trans r2.symm)) (i1.trans (e2.trans i2.symm))
theorem gpB_of {a b : M4} {i k : Nat} (h1 : (fTimes (a.get i) (b.get k)).2 = true) (h2 : (fTimes (a.get k) (b.get i)).2 = true) (e1 : rv (a.get i) * rv (b.get k) - iv (a.get i) * iv (b.get k) = rv (a.get k) * rv (b.get i) - iv (a.get k) * iv (b.get i)) (e2 : rv (a.get i) * iv (b.get k) + iv (a.get i) * rv (b.get k) = rv (a.get k) * iv (b.get i) + iv (a.get k) * rv (b.get i)) : gpB a b i k = true := by
  unfold gpB
  rw [h1, h2, times_eq h1 h2 e1 e2, frEq_iff.2 rfl]; rfl
theorem all4_get {p : Fr → Bool} {m : M4} (h : all4 p m = true) : ∀ k, k < 4 → p (m.get k) = true := apre_all h
/-- Alike numbers. -/
def gSAl (a b : M4) : Bool := all4 realB a && all4 realB b && decide (sgn a.a.re = sgn b.a.re) && alB a b
/-- All fractions are 0. -/
def dkF (f : Fr) : Bool := decide (f.re = 0) && decide (f.im = 0)
def dkJ (a : J2) : Bool := dkF a.x && dkF a.y
/-- Alike vectors. -/
def gJAl (a b : J2) : Bool := (fTimes a.x b.y).2 && (fTimes a.y b.x).2 && jv a && jv b && frEq (fTimes a.x b.y).1 (fTimes a.y b.x).1 && (dkJ a == dkJ b)
theorem dkF_iff {f : Fr} (h : vld f = true) : dkF f = true ↔ rv f = 0 ∧ iv f = 0 := by
  unfold dkF
  simp only [Bool.and_eq_true, decide_eq_true_eq]
  rw [rv_zero h, iv_zero h]
theorem dkF_f0 {f : Fr} (h : vld f = true) : dkF f = true ↔ f = f0 := by
  rw [dkF_iff h]
  constructor
  · rintro ⟨h1, h2⟩; exact val_inj h vld_f0 (by rw [h1, rv_f0]) (by rw [h2, iv_f0])
  · rintro rfl; exact ⟨rv_f0, iv_f0⟩
theorem gJAl_comm (a b : J2) : gJAl b a = gJAl a b := by
  unfold gJAl
  rw [tm_comm b.x, tm_comm b.y, frEq_comm]
  cases (fTimes a.y b.x).2 <;> cases (fTimes a.x b.y).2 <;> cases jv a <;> cases jv b <;> cases dkJ a <;> cases dkJ b <;> simp
end Go.Proofs.YtmcokdiopcpifaaDoor
