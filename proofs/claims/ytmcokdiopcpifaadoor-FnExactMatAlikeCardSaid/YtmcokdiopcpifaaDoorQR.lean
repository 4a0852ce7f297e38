/- Plain facts: real fractions and their values. -/
import Derived.Test.YtmcokdiopcpifaaDoorPlain
set_option maxRecDepth 100000
namespace Go.Proofs.YtmcokdiopcpifaaDoor
open Pol

theorem realB_iff {a : Fr} : realB a = true ↔ vld a = true ∧ a.im = 0 := by unfold realB; simp
theorem real_iv {a : Fr} (h : realB a = true) : iv a = 0 := (iv_zero (realB_iff.1 h).1).2 (realB_iff.1 h).2
theorem real_of {a : Fr} (h : vld a = true) (hi : iv a = 0) : realB a = true := realB_iff.2 ⟨h, (iv_zero h).1 hi⟩
theorem den_pos {a : Fr} (h : vld a = true) : (0 : Rat) < (a.den : Rat) := by
  have h1 := vld_den h
  have h2 : ((0 : Int) : Rat) < (a.den : Rat) := Rat.intCast_lt_intCast.2 (by omega)
  simpa using h2
theorem rv_mul {a : Fr} (h : vld a = true) : rv a * (a.den : Rat) = (a.re : Rat) := by
  have := vld_cast h
  unfold rv; grind
theorem rv_le {a b : Fr} (ha : vld a = true) (hb : vld b = true) : rv a ≤ rv b ↔ a.re * b.den ≤ b.re * a.den := by
  have h1 := den_pos ha
  have h2 := den_pos hb
  have e1 := rv_mul ha
  have e2 := rv_mul hb
  have h3 : 0 < (a.den : Rat) * (b.den : Rat) := Rat.mul_pos h1 h2
  rw [← Rat.intCast_le_intCast, Rat.intCast_mul, Rat.intCast_mul, ← e1, ← e2]
  have s1 : rv a * (a.den : Rat) * (b.den : Rat) = rv a * ((a.den : Rat) * (b.den : Rat)) := by grind
  have s2 : rv b * (b.den : Rat) * (a.den : Rat) = rv b * ((a.den : Rat) * (b.den : Rat)) := by grind
  rw [s1, s2]
  constructor
  · intro h; exact Rat.mul_le_mul_of_nonneg_right h (Rat.le_of_lt h3)
  · intro h
    apply Rat.not_lt.1
    intro h'
    exact Rat.not_le.2 ((Rat.mul_lt_mul_right h3).2 h') h
theorem vld_f0 : vld f0 = true := by decide
theorem rv_f0 : rv f0 = 0 := (rv_zero vld_f0).2 rfl
theorem iv_f0 : iv f0 = 0 := (iv_zero vld_f0).2 rfl
theorem rv_nonneg {a : Fr} (ha : vld a = true) : 0 ≤ rv a ↔ 0 ≤ a.re := by
  have h := rv_le vld_f0 ha
  rw [rv_f0] at h
  rw [h]
  show 0 * a.den ≤ a.re * 1 ↔ _
  omega
theorem sq_nn (a : Rat) : 0 ≤ a * a := by
  rcases (Rat.le_total : (0 : Rat) ≤ a ∨ a ≤ 0) with h | h
  · exact Rat.mul_nonneg h h
  · have h1 : 0 ≤ -a := by grind
    have := Rat.mul_nonneg h1 h1
    grind
end Go.Proofs.YtmcokdiopcpifaaDoor
