/- Plain facts: inner products are mirrored both ways, and are not greater than the powers let them be. -/
import Derived.Test.YtlmpbijhidnekaaQJP
import Derived.Test.YtlmpbijhidnekaaS3
namespace Go.Proofs.Ytlmpbijhidnekaa
open Pol

theorem fTimes_comm (a b : Fr) : fTimes a b = fTimes b a := by
  unfold fTimes
  rw [Bool.and_comm (vld a), Int.mul_comm a.den b.den, Int.mul_comm a.re b.re, Int.mul_comm a.im b.im, Int.mul_comm a.re b.im, Int.mul_comm a.im b.re, Int.add_comm (b.im * a.re)]
theorem conj_add {p q s : Fr} (h : fAdd p q = (s, true)) : fAdd (fConj p) (fConj q) = (fConj s, true) := by
  obtain ⟨v1, v2, v3, r, i⟩ := fAdd_ok.1 h
  exact fAdd_ok.2 ⟨(conj_vld _).trans v1, (conj_vld _).trans v2, (conj_vld _).trans v3, r, by rw [conj_iv, conj_iv, conj_iv, i]; grind⟩
theorem jIn_parts {a b : J2} {o : Fr} (h : jIn a b = (o, true)) : (vld b.x = true ∧ vld b.y = true) ∧ ((fTimes a.x (fConj b.x)).2 = true ∧ (fTimes a.y (fConj b.y)).2 = true) ∧ fAdd (fTimes a.x (fConj b.x)).1 (fTimes a.y (fConj b.y)).1 = (o, true) := by
  unfold jIn at h
  split at h
  · next hh =>
    simp only [Bool.and_eq_true, fMirror_snd] at hh
    rw [mirror_y hh.1, mirror_y hh.2] at h
    unfold fIn at h
    split at h
    · next h2 =>
      simp only [Bool.and_eq_true] at h2
      exact ⟨hh, h2, h⟩
    · cases h
  · cases h
theorem jIn_swap {a b : J2} {o : Fr} (h : jIn a b = (o, true)) : jIn b a = (fConj o, true) := by
  obtain ⟨⟨h1, h2⟩, ⟨h3, h4⟩, h5⟩ := jIn_parts h
  have va := (fTimes_vld h3).1
  have vb := (fTimes_vld h4).1
  have e1 : fTimes b.x (fConj a.x) = (fConj (fTimes a.x (fConj b.x)).1, true) := (fTimes_comm _ _).trans (times_conj h3)
  have e2 : fTimes b.y (fConj a.y) = (fConj (fTimes a.y (fConj b.y)).1, true) := (fTimes_comm _ _).trans (times_conj h4)
  unfold jIn
  rw [mirror_y va, mirror_y vb]
  show fIn b.x (fConj a.x) b.y (fConj a.y) = _
  unfold fIn
  rw [e1, e2]
  exact conj_add h5
theorem jIn_vld {a b : J2} {o : Fr} (h : jIn a b = (o, true)) : vld o = true := (fAdd_ok.1 (jIn_parts h).2.2).2.2.1
theorem mul_nn {a b : Rat} (h : 0 ≤ a) (k : 0 ≤ b) : 0 ≤ a * b := Rat.mul_nonneg h k
theorem cs {a b : J2} {o u v w n : Fr} (h : jIn a b = (o, true)) (hu : jPow a = (u, true)) (hv : jPow b = (v, true)) (hw : fTimes u v = (w, true)) (hn : fPower o = (n, true)) : (fCmp n w).2 = true ∧ (fCmp n w).1 ≤ 0 := by
  obtain ⟨⟨h1, h2⟩, ⟨h3, h4⟩, h5⟩ := jIn_parts h
  obtain ⟨-, -, -, r1, i1⟩ := fTimes_ok.1 (pair_t h3)
  obtain ⟨-, -, -, r2, i2⟩ := fTimes_ok.1 (pair_t h4)
  obtain ⟨-, -, vo, ro, io⟩ := fAdd_ok.1 h5
  obtain ⟨-, vn, rn, inn⟩ := fPower_ok.1 hn
  obtain ⟨vu, ru, iu⟩ := jPow_ok hu
  obtain ⟨vv, rv', iv'⟩ := jPow_ok hv
  obtain ⟨-, -, vw, rw', iw⟩ := fTimes_ok.1 hw
  have kn : realB n = true := by unfold realB; rw [vn, (iv_zero vn).1 inn]; rfl
  have iw0 : iv w = 0 := by rw [iw, iu, iv']; grind
  have kw : realB w = true := by unfold realB; rw [vw, (iv_zero vw).1 iw0]; rfl
  have c1 : rv (fConj b.x) = rv b.x := rfl
  have c2 : iv (fConj b.x) = - iv b.x := conj_iv _
  have c3 : rv (fConj b.y) = rv b.y := rfl
  have c4 : iv (fConj b.y) = - iv b.y := conj_iv _
  have hle : rv n ≤ rv w := by
    apply (Rat.le_iff_sub_nonneg _ _).2
    have q1 := sq_nn (rv a.x * rv b.y - iv a.x * iv b.y - (rv a.y * rv b.x - iv a.y * iv b.x))
    have q2 := sq_nn (rv a.x * iv b.y + iv a.x * rv b.y - (rv a.y * iv b.x + iv a.y * rv b.x))
    have e : rv w - rv n = (rv a.x * rv b.y - iv a.x * iv b.y - (rv a.y * rv b.x - iv a.y * iv b.x)) * (rv a.x * rv b.y - iv a.x * iv b.y - (rv a.y * rv b.x - iv a.y * iv b.x)) + (rv a.x * iv b.y + iv a.x * rv b.y - (rv a.y * iv b.x + iv a.y * rv b.x)) * (rv a.x * iv b.y + iv a.x * rv b.y - (rv a.y * iv b.x + iv a.y * rv b.x)) := by
      rw [rn, rw', iu, iv', ru, rv', ro, io, r1, r2, i1, i2, c1, c2, c3, c4]; grind
    rw [e]
    exact Rat.add_nonneg q1 q2
  have hz := (rv_le vn vw).1 hle
  have e : fCmp n w = (sgn (n.re * w.den - w.re * n.den), true) := by unfold fCmp; rw [kn, kw]; rfl
  rw [e]
  refine ⟨rfl, ?_⟩
  show sgn _ ≤ 0
  unfold sgn
  split
  · omega
  · split <;> omega
end Go.Proofs.Ytlmpbijhidnekaa
