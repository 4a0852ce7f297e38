/- Plain facts: products, adjoints and determinants of matrices. -/
import Derived.Test.YtcpdapfcbnhgaaaDoorNC
import Derived.Test.YtcpdapfcbnhgaaaDoorQM
namespace Go.Proofs.YtcpdapfcbnhgaaaDoor
open Pol

def mC (m : M4) : M4 := ⟨fConj m.a, fConj m.c, fConj m.b, fConj m.d⟩
theorem gAdj_y {m : M4} (h : all4 vld m = true) : gAdj m = (mC m, true) := by
  obtain ⟨h1, h2, h3, h4⟩ := all4_iff.1 h
  unfold gAdj
  rw [if_pos h, mirror_y h1, mirror_y h2, mirror_y h3, mirror_y h4]; rfl
theorem gAdj_n {m : M4} (h : all4 vld m = false) : gAdj m = (m4z, false) := by unfold gAdj; rw [if_neg (by rw [h]; simp)]
theorem mC_v {m : M4} (h : all4 vld m = true) : all4 vld (mC m) = true := by
  obtain ⟨h1, h2, h3, h4⟩ := all4_iff.1 h
  exact all4_iff.2 ⟨(conj_vld _).trans h1, (conj_vld _).trans h3, (conj_vld _).trans h2, (conj_vld _).trans h4⟩
theorem mC_2 (m : M4) : mC (mC m) = m := by unfold mC; simp only [conj_conj]
theorem fIn_ok {a b c d x : Fr} (h : fIn a b c d = (x, true)) : vld x = true ∧ rv x = (rv a * rv b - iv a * iv b) + (rv c * rv d - iv c * iv d) ∧ iv x = (rv a * iv b + iv a * rv b) + (rv c * iv d + iv c * rv d) := by
  unfold fIn at h
  split at h
  · next h2 =>
    simp only [Bool.and_eq_true] at h2
    obtain ⟨-, -, -, r1, i1⟩ := fTimes_ok.1 (pair_t h2.1)
    obtain ⟨-, -, -, r2, i2⟩ := fTimes_ok.1 (pair_t h2.2)
    obtain ⟨-, -, v, r, i⟩ := fAdd_ok.1 h
    exact ⟨v, by rw [r, r1, r2], by rw [i, i1, i2]⟩
  · cases h
theorem g4_ok {a b c d : Fr} {e : Bool} {o : M4} (h : g4 a b c d e = (o, true)) : e = true ∧ o = ⟨a, b, c, d⟩ := by
  unfold g4 at h
  split at h
  · next he => exact ⟨he, (Prod.mk.inj h).1.symm⟩
  · cases h
theorem mTm_parts {m n o : M4} (h : mTm m n = (o, true)) : all4 vld m = true ∧ all4 vld n = true ∧ fIn m.a n.a m.b n.c = (o.a, true) ∧ fIn m.a n.b m.b n.d = (o.b, true) ∧ fIn m.c n.a m.d n.c = (o.c, true) ∧ fIn m.c n.b m.d n.d = (o.d, true) := by
  unfold mTm at h
  split at h
  · next h1 =>
    split at h
    · next h2 =>
      obtain ⟨he, rfl⟩ := g4_ok h
      simp only [Bool.and_eq_true] at he
      exact ⟨h1, h2, pair_t he.1.1.1, pair_t he.1.1.2, pair_t he.1.2, pair_t he.2⟩
    · cases h
  · cases h
theorem mTm_make {m n o : M4} (h1 : all4 vld m = true) (h2 : all4 vld n = true) (ha : fIn m.a n.a m.b n.c = (o.a, true)) (hb : fIn m.a n.b m.b n.d = (o.b, true)) (hc : fIn m.c n.a m.d n.c = (o.c, true)) (hd : fIn m.c n.b m.d n.d = (o.d, true)) : mTm m n = (o, true) := by
  unfold mTm g4
  rw [if_pos h1, if_pos h2, ha, hb, hc, hd]; rfl
theorem mTm_v {m n o : M4} (h : mTm m n = (o, true)) : all4 vld o = true := by
  obtain ⟨-, -, ha, hb, hc, hd⟩ := mTm_parts h
  exact all4_iff.2 ⟨(fIn_ok ha).1, (fIn_ok hb).1, (fIn_ok hc).1, (fIn_ok hd).1⟩
theorem mTm_no {m n : M4} (h : (mTm m n).2 = false) : mTm m n = (m4z, false) := by
  unfold mTm at h ⊢
  split
  · next h1 =>
    rw [if_pos h1] at h
    split
    · next h2 =>
      rw [if_pos h2] at h
      unfold g4 at h ⊢
      split
      · next h3 => rw [if_pos h3] at h; cases h
      · rfl
    · rfl
  · rfl
theorem m4_ext {m n : M4} (h1 : m.a = n.a) (h2 : m.b = n.b) (h3 : m.c = n.c) (h4 : m.d = n.d) : m = n := by
  obtain ⟨a, b, c, d⟩ := m
  obtain ⟨a', b', c', d'⟩ := n
  simp only at h1 h2 h3 h4
  rw [h1, h2, h3, h4]
theorem conj_in {a b c d x y : Fr} (h : fIn a b c d = (x, true)) (k : fIn (fConj b) (fConj a) (fConj d) (fConj c) = (y, true)) : y = fConj x := by
  obtain ⟨v, r, i⟩ := fIn_ok h
  obtain ⟨v', r', i'⟩ := fIn_ok k
  refine val_inj v' ((conj_vld _).trans v) ?_ ?_
  · rw [r']; simp only [conj_rv, conj_iv, r]; grind
  · rw [i']; simp only [conj_rv, conj_iv, i]; grind
/-- Adjoints of products are products of adjoints. -/
theorem law_adj {a b o x : M4} (h : mTm a b = (o, true)) (k : mTm (mC b) (mC a) = (x, true)) : x = mC o := by
  obtain ⟨-, -, ha, hb, hc, hd⟩ := mTm_parts h
  obtain ⟨-, -, ka, kb, kc, kd⟩ := mTm_parts k
  exact m4_ext (conj_in ha ka) (conj_in hc kb) (conj_in hb kc) (conj_in hd kd)
theorem gDet_ok {m : M4} {k : Fr} (h : gDet m = (k, true)) : all4 vld m = true ∧ vld k = true ∧ rv k = (rv m.a * rv m.d - iv m.a * iv m.d) - (rv m.b * rv m.c - iv m.b * iv m.c) ∧ iv k = (rv m.a * iv m.d + iv m.a * rv m.d) - (rv m.b * iv m.c + iv m.b * rv m.c) := by
  unfold gDet at h
  split at h
  · next h2 =>
    simp only [Bool.and_eq_true] at h2
    obtain ⟨va, vd, -, r1, i1⟩ := fTimes_ok.1 (pair_t h2.1)
    obtain ⟨vb, vc, -, r2, i2⟩ := fTimes_ok.1 (pair_t h2.2)
    obtain ⟨-, -, v, r, i⟩ := fLess_ok.1 h
    exact ⟨all4_iff.2 ⟨va, vb, vc, vd⟩, v, by rw [r, r1, r2], by rw [i, i1, i2]⟩
  · cases h
theorem law_det {a b o : M4} {k l m n : Fr} (h : mTm a b = (o, true)) (hk : gDet a = (k, true)) (hl : gDet b = (l, true)) (hm : gDet o = (m, true)) (hn : fTimes k l = (n, true)) : m = n := by
  obtain ⟨-, -, ha, hb, hc, hd⟩ := mTm_parts h
  obtain ⟨-, ra, ia⟩ := fIn_ok ha
  obtain ⟨-, rb, ib⟩ := fIn_ok hb
  obtain ⟨-, rc, ic⟩ := fIn_ok hc
  obtain ⟨-, rd, id⟩ := fIn_ok hd
  obtain ⟨-, -, rk, ik⟩ := gDet_ok hk
  obtain ⟨-, -, rl, il⟩ := gDet_ok hl
  obtain ⟨-, vm, rm, im⟩ := gDet_ok hm
  obtain ⟨-, -, vn, rn, inn⟩ := fTimes_ok.1 hn
  refine val_inj vm vn ?_ ?_
  · rw [rm, rn, rk, rl, ik, il, ra, rb, rc, rd, ia, ib, ic, id]; grind
  · rw [im, inn, rk, rl, ik, il, ra, rb, rc, rd, ia, ib, ic, id]; grind
/-- The determinant of an adjoint. -/
theorem law_cdet {a : M4} {k l : Fr} (hk : gDet a = (k, true)) (hl : gDet (mC a) = (l, true)) : fMirror k = (l, true) := by
  obtain ⟨-, vk, rk, ik⟩ := gDet_ok hk
  obtain ⟨-, vl, rl, il⟩ := gDet_ok hl
  rw [mirror_y vk]
  have : l = fConj k := by
    refine val_inj vl ((conj_vld _).trans vk) ?_ ?_
    · rw [rl, conj_rv, rk]; show (rv (fConj a.a) * rv (fConj a.d) - iv (fConj a.a) * iv (fConj a.d)) - (rv (fConj a.c) * rv (fConj a.b) - iv (fConj a.c) * iv (fConj a.b)) = _; simp only [conj_rv, conj_iv]; grind
    · rw [il, conj_iv, ik]; show (rv (fConj a.a) * iv (fConj a.d) + iv (fConj a.a) * rv (fConj a.d)) - (rv (fConj a.c) * iv (fConj a.b) + iv (fConj a.c) * rv (fConj a.b)) = _; simp only [conj_rv, conj_iv]; grind
  rw [this]
theorem v1 : vld Pol.f1 = true := by decide
theorem r1 : rv Pol.f1 = 1 := by show ((1 : Int) : Rat) / ((1 : Int) : Rat) = 1; grind
theorem i1 : iv Pol.f1 = 0 := by show ((0 : Int) : Rat) / ((1 : Int) : Rat) = 0; grind
theorem one_l {x : Fr} (h : vld x = true) : fTimes Pol.f1 x = (x, true) := fTimes_ok.2 ⟨v1, h, h, by rw [r1, i1]; grind, by rw [r1, i1]; grind⟩
theorem one_r {x : Fr} (h : vld x = true) : fTimes x Pol.f1 = (x, true) := fTimes_ok.2 ⟨h, v1, h, by rw [r1, i1]; grind, by rw [r1, i1]; grind⟩
theorem zero_l {x : Fr} (h : vld x = true) : fTimes f0 x = (f0, true) := fTimes_ok.2 ⟨vld_f0, h, vld_f0, by rw [rv_f0, iv_f0]; grind, by rw [rv_f0, iv_f0]; grind⟩
theorem zero_r {x : Fr} (h : vld x = true) : fTimes x f0 = (f0, true) := fTimes_ok.2 ⟨h, vld_f0, vld_f0, by rw [rv_f0, iv_f0]; grind, by rw [rv_f0, iv_f0]; grind⟩
theorem add0_l {x : Fr} (h : vld x = true) : fAdd f0 x = (x, true) := fAdd_ok.2 ⟨vld_f0, h, h, by rw [rv_f0]; grind, by rw [iv_f0]; grind⟩
theorem add0_r {x : Fr} (h : vld x = true) : fAdd x f0 = (x, true) := fAdd_ok.2 ⟨h, vld_f0, h, by rw [rv_f0]; grind, by rw [iv_f0]; grind⟩
def mOne : M4 := ⟨Pol.f1, f0, f0, Pol.f1⟩
theorem mOne_v : all4 vld mOne = true := by decide
theorem one_mul {a : M4} (h : all4 vld a = true) : mTm mOne a = (a, true) := by
  obtain ⟨h1, h2, h3, h4⟩ := all4_iff.1 h
  refine mTm_make mOne_v h ?_ ?_ ?_ ?_ <;> unfold fIn mOne <;> simp only [one_l, zero_l, add0_l, add0_r, h1, h2, h3, h4, Bool.and_self, if_true]
theorem mul_one {a : M4} (h : all4 vld a = true) : mTm a mOne = (a, true) := by
  obtain ⟨h1, h2, h3, h4⟩ := all4_iff.1 h
  refine mTm_make h mOne_v ?_ ?_ ?_ ?_ <;> unfold fIn mOne <;> simp only [one_r, zero_r, add0_l, add0_r, h1, h2, h3, h4, Bool.and_self, if_true]
theorem sca_one {a : M4} (h : all4 vld a = true) : mSca a Pol.f1 = (a, true) := by
  have hr := all4_iff.1 h
  have e : (false || !(all4 vld a && vld Pol.f1)) = false := by rw [h, v1]; rfl
  have hk : ∀ k, k < 4 → sTimF a Pol.f1 k = (a.get k, true) := fun k hk => by
    have : k = 0 ∨ k = 1 ∨ k = 2 ∨ k = 3 := by omega
    rcases this with rfl | rfl | rfl | rfl
    · exact one_r hr.1
    · exact one_r hr.2.1
    · exact one_r hr.2.2.1
    · exact one_r hr.2.2.2
  unfold mSca
  rw [e, m4l_good (fun k h => by rw [hk k h])]
  unfold m4f
  rw [hk 0 (by omega), hk 1 (by omega), hk 2 (by omega), hk 3 (by omega)]
  rfl
end Go.Proofs.YtcpdapfcbnhgaaaDoor
