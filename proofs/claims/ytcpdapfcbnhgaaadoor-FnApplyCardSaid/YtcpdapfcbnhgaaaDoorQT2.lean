/- Plain facts: rotators and filters. -/
import Derived.Test.YtcpdapfcbnhgaaaDoorQT
import Derived.Test.YtcpdapfcbnhgaaaDoorZ2
namespace Go.Proofs.YtcpdapfcbnhgaaaDoor
open Pol

theorem rot_one : gRot 1 0 = (mOne, true) := by kernel_rfl
theorem gFil_no {p q : Int} (h : (gFil p q).2 = false) : gFil p q = (m4z, false) := by
  unfold gFil at h ⊢
  split
  · next h1 =>
    rw [if_pos h1] at h
    unfold g4 at h ⊢
    split
    · next h2 => rw [if_pos h2] at h; cases h
    · rfl
  · rfl
theorem tdiv_small {a g b : Int} (h1 : -b ≤ a) (h2 : a ≤ b) : -b ≤ a.tdiv g ∧ a.tdiv g ≤ b := by
  have h : (a.tdiv g).natAbs ≤ a.natAbs := by rw [Int.natAbs_tdiv]; exact Nat.div_le_self _ _
  omega
/-- Small parts make a fraction. -/
theorem low_small {re den : Int} (h1 : -2000000000 ≤ re) (h2 : re ≤ 2000000000) (h3 : 1 ≤ den) (h4 : den ≤ 2000000000) : low re 0 den = ((low re 0 den).1, true) ∧ vld (low re 0 den).1 = true ∧ rv (low re 0 den).1 = (re : Rat) / (den : Rat) ∧ iv (low re 0 den).1 = 0 := by
  have hB : lowB re 0 den = true := by
    unfold lowB inP cut
    have a1 := tdiv_small (g := g3 re 0 den) h1 h2
    have a2 := tdiv_small (a := 0) (b := 2000000000) (g := g3 re 0 den) (by omega) (by omega)
    have a3 := tdiv_small (g := g3 re 0 den) (a := den) (b := 2000000000) (by omega) h4
    simp only [Bool.and_eq_true, decide_eq_true_eq]
    exact ⟨⟨a1, a2⟩, a3.2⟩
  have e : low re 0 den = (cut re 0 den, true) := by unfold low; rw [if_pos hB]
  rw [e]
  obtain ⟨k1, k2, k3⟩ := (low_ok h3).1 e
  refine ⟨rfl, k1, k2, ?_⟩
  rw [k3]
  show ((0 : Int) : Rat) / (den : Rat) = 0
  rw [Rat.intCast_zero, Rat.div_def, Rat.zero_mul]
theorem dir_ok {p q : Int} (h : dirB p q = true) : vld (dC p q) = true ∧ vld (dS p q) = true ∧ iv (dC p q) = 0 ∧ iv (dS p q) = 0 ∧ rv (dC p q) = ((p * p - q * q : Int) : Rat) / ((p * p + q * q : Int) : Rat) ∧ rv (dS p q) = ((2 * p * q : Int) : Rat) / ((p * p + q * q : Int) : Rat) ∧ rv (dC p q) * rv (dC p q) + rv (dS p q) * rv (dS p q) = 1 := by
  obtain ⟨⟨a, b⟩, ⟨c, d⟩, e⟩ := dir_bd h
  have s1 := sq_bd a b
  have s2 := sq_bd c d
  have s3 := pr_bd a b c d
  obtain ⟨-, v1, r1, i1⟩ := low_small (re := p * p - q * q) (den := p * p + q * q) (by omega) (by omega) e (by omega)
  obtain ⟨-, v2, r2, i2⟩ := low_small (re := 2 * p * q) (den := p * p + q * q) (by omega) (by omega) e (by omega)
  refine ⟨v1, v2, i1, i2, r1, r2, ?_⟩
  show rv (low (p * p - q * q) 0 (p * p + q * q)).1 * rv (low (p * p - q * q) 0 (p * p + q * q)).1 + rv (low (2 * p * q) 0 (p * p + q * q)).1 * rv (low (2 * p * q) 0 (p * p + q * q)).1 = 1
  rw [r1, r2]
  have hn : ((p * p + q * q : Int) : Rat) ≠ 0 := castInt_ne e
  have e1 : ((p * p - q * q : Int) : Rat) = (p : Rat) * p - (q : Rat) * q := by rw [Rat.intCast_sub, Rat.intCast_mul, Rat.intCast_mul]
  have e2 : ((2 * p * q : Int) : Rat) = 2 * (p : Rat) * q := by rw [Rat.intCast_mul, Rat.intCast_mul]; rfl
  have e3 : ((p * p + q * q : Int) : Rat) = (p : Rat) * p + (q : Rat) * q := by rw [Rat.intCast_add, Rat.intCast_mul, Rat.intCast_mul]
  rw [e1, e2, e3]
  rw [e3] at hn
  grind
theorem gFil_parts {p q : Int} {o : M4} (h : gFil p q = (o, true)) : dirB p q = true ∧ fTimes (dC p q) (dC p q) = (o.a, true) ∧ fTimes (dC p q) (dS p q) = (o.b, true) ∧ o.c = o.b ∧ fTimes (dS p q) (dS p q) = (o.d, true) := by
  unfold gFil at h
  split at h
  · next h1 =>
    obtain ⟨he, rfl⟩ := g4_ok h
    simp only [Bool.and_eq_true] at he
    exact ⟨h1, pair_t he.1.1, pair_t he.1.2, rfl, pair_t he.2⟩
  · cases h
theorem conj_real {a : Fr} (h : vld a = true) (hi : iv a = 0) : fConj a = a := by
  have := (iv_zero h).1 hi
  obtain ⟨x, y, z⟩ := a
  simp only at this
  subst this
  rfl
theorem law_filter {p q : Int} {o : M4} (h : gFil p q = (o, true)) : (∀ X, mTm o o = (X, true) → X = o) ∧ gAdj o = (o, true) ∧ (∀ d, gDet o = (d, true) → d = f0) := by
  obtain ⟨hd, ha, hb, hc, hdd⟩ := gFil_parts h
  obtain ⟨-, -, ic, is, -, -, h1⟩ := dir_ok hd
  obtain ⟨-, -, va, ra, ia⟩ := fTimes_ok.1 ha
  obtain ⟨-, -, vb, rb, ib⟩ := fTimes_ok.1 hb
  obtain ⟨-, -, vd, rd, id⟩ := fTimes_ok.1 hdd
  have vc : vld o.c = true := hc ▸ vb
  have rc : rv o.c = rv o.b := by rw [hc]
  have jc : iv o.c = iv o.b := by rw [hc]
  have ja : iv o.a = 0 := by rw [ia, ic]; grind
  have jb : iv o.b = 0 := by rw [ib, ic, is]; grind
  have jd : iv o.d = 0 := by rw [id, is]; grind
  have ra' : rv o.a = rv (dC p q) * rv (dC p q) := by rw [ra, ic]; grind
  have rb' : rv o.b = rv (dC p q) * rv (dS p q) := by rw [rb, ic, is]; grind
  have rd' : rv o.d = rv (dS p q) * rv (dS p q) := by rw [rd, is]; grind
  have hv : all4 vld o = true := all4_iff.2 ⟨va, vb, vc, vd⟩
  refine ⟨fun X hX => ?_, ?_, fun d hdet => ?_⟩
  · obtain ⟨-, -, xa, xb, xc, xd⟩ := mTm_parts hX
    obtain ⟨w1, q1, u1⟩ := fIn_ok xa
    obtain ⟨w2, q2, u2⟩ := fIn_ok xb
    obtain ⟨w3, q3, u3⟩ := fIn_ok xc
    obtain ⟨w4, q4, u4⟩ := fIn_ok xd
    refine m4_ext (val_inj w1 va ?_ ?_) (val_inj w2 vb ?_ ?_) (val_inj w3 vc ?_ ?_) (val_inj w4 vd ?_ ?_)
    · rw [q1, rc, jc, ja, jb, ra', rb']; grind
    · rw [u1, rc, jc, ja, jb]; grind
    · rw [q2, jd, ja, jb, rd', ra', rb']; grind
    · rw [u2, jd, ja, jb]; grind
    · rw [q3, rc, jc, ja, jb, jd, rd', ra', rb']; grind
    · rw [u3, rc, jc, ja, jb, jd]; grind
    · rw [q4, rc, jc, jb, jd, rd', rb']; grind
    · rw [u4, rc, jc, jb, jd]; grind
  · rw [gAdj_y hv]
    have : mC o = o := by
      refine m4_ext ?_ ?_ ?_ ?_
      · exact conj_real va ja
      · show fConj o.c = o.b
        rw [hc]; exact conj_real vb jb
      · show fConj o.b = o.c
        rw [hc]; exact conj_real vb jb
      · exact conj_real vd jd
    rw [this]
  · obtain ⟨-, v, r, i⟩ := gDet_ok hdet
    refine val_inj v vld_f0 ?_ ?_
    · rw [r, rv_f0, rc, jc, ja, jb, jd, ra', rb', rd']; grind
    · rw [i, iv_f0, rc, jc, ja, jb, jd]; grind
end Go.Proofs.YtcpdapfcbnhgaaaDoor
