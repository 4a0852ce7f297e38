/- Plain facts: turned and opposite fractions, small parts. No program is in sight. -/
import Derived.Test.YtmcokdiopcpifaaDoorQR
set_option maxRecDepth 100000
namespace Go.Proofs.YtmcokdiopcpifaaDoor
open Pol

theorem tdivE_small {a g b : Int} (hg : 1 ≤ g) (h1 : -b ≤ a) (h2 : a ≤ b) : -b ≤ a.tdiv g ∧ a.tdiv g ≤ b := by
  have h : (a.tdiv g).natAbs ≤ a.natAbs := by rw [Int.natAbs_tdiv]; exact Nat.div_le_self _ _
  omega
theorem lowE_small {re den : Int} (h1 : -2000000000 ≤ re) (h2 : re ≤ 2000000000) (h3 : 1 ≤ den) (h4 : den ≤ 2000000000) : low re 0 den = ((low re 0 den).1, true) ∧ vld (low re 0 den).1 = true ∧ rv (low re 0 den).1 = (re : Rat) / (den : Rat) ∧ iv (low re 0 den).1 = 0 := by
  have hg := g3_pos re 0 den h3
  have hB : lowB re 0 den = true := by
    unfold lowB inP cut
    have a1 := tdivE_small hg (a := re) (b := 2000000000) h1 h2
    have a2 := tdivE_small hg (a := 0) (b := 2000000000) (by omega) (by omega)
    have a3 := tdivE_small hg (a := den) (b := 2000000000) (by omega) h4
    simp only [Bool.and_eq_true, decide_eq_true_eq]
    exact ⟨⟨a1, a2⟩, a3.2⟩
  have e : low re 0 den = (cut re 0 den, true) := by unfold low; rw [if_pos hB]
  rw [e]
  obtain ⟨k1, k2, k3⟩ := (low_ok h3).1 e
  exact ⟨rfl, k1, k2, by rw [k3]; show ((0 : Int) : Rat) / _ = 0; rw [Rat.div_def]; exact Rat.zero_mul _⟩
theorem g3E_swap (a b c : Int) : g3 b a c = g3 a b c := by unfold g3; rw [gc_comm b a]
theorem vldE_turn {a : Fr} (h : vld a = true) : vld ⟨-a.im, a.re, a.den⟩ = true := by
  obtain ⟨h1, h2, h3, h4⟩ := (vld_iff a).1 h
  exact (vld_iff _).2 ⟨⟨by show _ ≤ -a.im; omega, by show -a.im ≤ _; omega⟩, h1, h3, by show g3 (-a.im) a.re a.den = 1; rw [g3_neg_re, g3E_swap]; exact h4⟩
theorem turnE_rv (a : Fr) : rv ⟨-a.im, a.re, a.den⟩ = - iv a := by
  show ((-a.im : Int) : Rat) / (a.den : Rat) = -((a.im : Rat) / (a.den : Rat))
  rw [Rat.intCast_neg, Rat.div_def, Rat.div_def, Rat.neg_mul]
theorem fnegE_rv (a : Fr) : rv (fNeg a) = - rv a := by
  show ((-a.re : Int) : Rat) / (a.den : Rat) = -((a.re : Rat) / (a.den : Rat))
  rw [Rat.intCast_neg, Rat.div_def, Rat.div_def, Rat.neg_mul]
theorem fnegE_iv (a : Fr) : iv (fNeg a) = - iv a := by
  show ((-a.im : Int) : Rat) / (a.den : Rat) = -((a.im : Rat) / (a.den : Rat))
  rw [Rat.intCast_neg, Rat.div_def, Rat.div_def, Rat.neg_mul]
theorem m4E_ext {m n : M4} (h1 : m.a = n.a) (h2 : m.b = n.b) (h3 : m.c = n.c) (h4 : m.d = n.d) : m = n := by
  obtain ⟨a, b, c, d⟩ := m
  obtain ⟨a', b', c', d'⟩ := n
  simp only at h1 h2 h3 h4
  rw [h1, h2, h3, h4]
end Go.Proofs.YtmcokdiopcpifaaDoor
