/- Plain facts: lossless matrices, their determinants, rotators. -/
import Derived.Test.YtmcokdiopcpifaaDoorPlG19
import Derived.Test.YtmcokdiopcpifaaDoorPlML
set_option maxRecDepth 100000
namespace Go.Proofs.YtmcokdiopcpifaaDoor
open Pol
theorem gLos_make {a : M4} (h : all4 vld a = true) (k : mTm a (mC a) = (mOne, true)) : gLos a = true := by
  unfold gLos
  rw [h, k]
  simp only [Bool.true_and, m4B_iff]
  rfl
theorem low_bd2 {re den b : Int} (h1 : -b ≤ re) (h2 : re ≤ b) (h3 : 1 ≤ den) (h4 : den ≤ b) (hb : b ≤ 2000000000) : -b ≤ (low re 0 den).1.re ∧ (low re 0 den).1.re ≤ b ∧ (low re 0 den).1.den ≤ b ∧ (low re 0 den).1.im = 0 := by
  obtain ⟨e, v, -, -⟩ := low_small (re := re) (den := den) (by omega) (by omega) h3 (by omega)
  have hB : lowB re 0 den = true := by
    cases hh : lowB re 0 den
    · rw [show low re 0 den = (fz, false) by unfold low; rw [if_neg (by rw [hh]; simp)]] at e
      cases e
    · rfl
  have e2 : low re 0 den = (cut re 0 den, true) := by unfold low; rw [if_pos hB]
  rw [e2]
  have a1 := tdiv_small (g := g3 re 0 den) h1 h2
  have a3 := tdiv_small (g := g3 re 0 den) (a := den) (b := b) (by omega) h4
  refine ⟨a1.1, a1.2, a3.2, ?_⟩
  show Int.tdiv 0 (g3 re 0 den) = 0
  exact Int.zero_tdiv _
structure Dir (p q : Int) : Prop where
  vc : vld (dC p q) = true
  vs : vld (dS p q) = true
  ic : (dC p q).im = 0
  is : (dS p q).im = 0
  c0 : -40000 ≤ (dC p q).re
  c1 : (dC p q).re ≤ 40000
  s0 : -40000 ≤ (dS p q).re
  s1 : (dS p q).re ≤ 40000
  cd : (dC p q).den ≤ 40000
  sd : (dS p q).den ≤ 40000
  one : rv (dC p q) * rv (dC p q) + rv (dS p q) * rv (dS p q) = 1
theorem dir_all {p q : Int} (h : dirB p q = true) : Dir p q := by
  obtain ⟨⟨a, b⟩, ⟨c, d⟩, e⟩ := dir_bd h
  have s1 := sq_bd a b
  have s2 := sq_bd c d
  have s3 := pr_bd a b c d
  obtain ⟨v1, v2, -, -, -, -, h1⟩ := dir_ok h
  obtain ⟨k1, k2, k3, k4⟩ := low_bd2 (re := p * p - q * q) (den := p * p + q * q) (b := 40000) (by omega) (by omega) e (by omega) (by omega)
  obtain ⟨l1, l2, l3, l4⟩ := low_bd2 (re := 2 * p * q) (den := p * p + q * q) (b := 40000) (by omega) (by omega) e (by omega) (by omega)
  exact ⟨v1, v2, k4, l4, k1, k2, l1, l2, k3, l3, h1⟩
theorem neg_rv (a : Fr) : rv ⟨-a.re, a.im, a.den⟩ = - rv a := by
  show ((-a.re : Int) : Rat) / (a.den : Rat) = -((a.re : Rat) / (a.den : Rat))
  rw [Rat.intCast_neg, Rat.div_def, Rat.div_def, Rat.neg_mul]
end Go.Proofs.YtmcokdiopcpifaaDoor
