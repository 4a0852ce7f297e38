/- Plain facts on vectors and matrices of fractions. No program is in sight. -/
import Derived.Test.YtmcokdiopcpifaaDoorPlain
set_option maxRecDepth 100000
namespace Pol
def m4z : M4 := ⟨fz, fz, fz, fz⟩
def j2z : J2 := ⟨fz, fz⟩
def gAdj (m : M4) : M4 × Bool := if all4 vld m = true then (⟨(fMirror m.a).1, (fMirror m.c).1, (fMirror m.b).1, (fMirror m.d).1⟩, true) else (m4z, false)
theorem gAdj_no (m : M4) (h : (gAdj m).2 = false) : gAdj m = (m4z, false) := by
  unfold gAdj at h ⊢; split <;> simp_all
theorem gAdj_end (m : M4) : ((((false || !(fMirror m.a).2) || !(fMirror m.c).2) || !(fMirror m.b).2) || !(fMirror m.d).2) = !(gAdj m).2 ∧ ((gAdj m).2 = true → (⟨(fMirror m.a).1, (fMirror m.c).1, (fMirror m.b).1, (fMirror m.d).1⟩ : M4) = (gAdj m).1) := by
  simp only [fMirror_snd]
  unfold gAdj
  cases h : all4 vld m
  · refine ⟨?_, fun e => by cases e⟩
    cases ha : vld m.a <;> cases hb : vld m.b <;> cases hc : vld m.c <;> cases hd : vld m.d <;> simp
    exact absurd (all4_iff.2 ⟨ha, hb, hc, hd⟩) (by rw [h]; simp)
  · obtain ⟨ha, hb, hc, hd⟩ := all4_iff.1 h
    simp [ha, hb, hc, hd]
theorem low_im0 (re den : Int) : (low re 0 den).1.im = 0 := by
  unfold low; split
  · unfold cut; simp
  · rfl
theorem low_bd (re im den : Int) : -2000000000 ≤ (low re im den).1.re ∧ (low re im den).1.re ≤ 2000000000 := by
  unfold low; split
  · next h =>
    unfold lowB inP at h
    simp only [Bool.and_eq_true, decide_eq_true_eq] at h
    exact h.1.1
  · unfold fz; simp
/-- The last of four numbers with the opposite sign. -/
def gMir (m : M4) : M4 × Bool := if all4 realB m = true then (⟨m.a, m.b, m.c, ⟨-m.d.re, m.d.im, m.d.den⟩⟩, true) else (m4z, false)
end Pol
