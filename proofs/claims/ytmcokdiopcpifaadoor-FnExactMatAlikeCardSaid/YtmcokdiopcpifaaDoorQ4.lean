/- Plain facts: the squares of the numbers of polarisation, two ways. No program is in sight. -/
import Derived.Test.YtmcokdiopcpifaaDoorQ3
set_option maxRecDepth 100000
namespace Pol
/- The squares, the reference's way: place by place, from the second one. -/
def accQ (a : M4) : Nat → Fr
  | 0 => f0
  | m + 1 => if m = 0 then f0 else (fAdd (accQ a m) (fTimes (a.get m) (a.get m)).1).1
def tQ (a : M4) (m : Nat) : Fr × Bool := fTimes (a.get m) (a.get m)
def nQ (a : M4) (m : Nat) : Fr × Bool := fAdd (accQ a m) (tQ a m).1
theorem accQ_one (a : M4) : accQ a 1 = f0 := rfl
theorem accQ_next (a : M4) {m : Nat} (h : 1 ≤ m) : accQ a (m + 1) = (nQ a m).1 := by
  show (if m = 0 then f0 else _) = _
  rw [if_neg (by omega)]; rfl
theorem fAdd_f0 {t : Fr} (h : vld t = true) : fAdd f0 t = (t, true) := by
  have h0 : vld f0 = true := by decide
  have hr : rv f0 = 0 := (rv_zero h0).2 rfl
  have hi : iv f0 = 0 := (iv_zero h0).2 rfl
  exact fAdd_ok.2 ⟨h0, h, h, by rw [hr]; simp [Rat.zero_add], by rw [hi]; simp [Rat.zero_add]⟩
theorem sSq_bad0 {a : M4} (h : all4 realB a = false) : sSq a = (fz, false) := by unfold sSq gt; rw [h]; simp
theorem tQ_vld {a : M4} {m : Nat} (h : (tQ a m).2 = true) : vld (tQ a m).1 = true := (fTimes_vld h).2.2
/-- What the reference makes of it. -/
theorem sSq_all {a : M4} (hv : all4 realB a = true) (h : ∀ m, 1 ≤ m → m < 4 → (tQ a m).2 = true ∧ (nQ a m).2 = true) : sSq a = (accQ a 4, true) := by
  have t1 := (h 1 (by omega) (by omega)).1
  have t2 := (h 2 (by omega) (by omega)).1
  have n2 := (h 2 (by omega) (by omega)).2
  have t3 := (h 3 (by omega) (by omega)).1
  have n3 := (h 3 (by omega) (by omega)).2
  have a2 : accQ a 2 = (fTimes a.b a.b).1 := by
    rw [accQ_next a (by omega)]; unfold nQ; rw [accQ_one]
    show (fAdd f0 (tQ a 1).1).1 = _
    rw [fAdd_f0 (tQ_vld t1)]; rfl
  have e2 : nQ a 2 = fAdd (fTimes a.b a.b).1 (fTimes a.c a.c).1 := by unfold nQ; rw [a2]; rfl
  have a3 : accQ a 3 = (fAdd (fTimes a.b a.b).1 (fTimes a.c a.c).1).1 := by rw [accQ_next a (by omega), e2]
  have e3 : nQ a 3 = fAdd (fAdd (fTimes a.b a.b).1 (fTimes a.c a.c).1).1 (fTimes a.d a.d).1 := by unfold nQ; rw [a3]; rfl
  have a4 : accQ a 4 = (fAdd (fAdd (fTimes a.b a.b).1 (fTimes a.c a.c).1).1 (fTimes a.d a.d).1).1 := by rw [accQ_next a (by omega), e3]
  rw [e2] at n2; rw [e3] at n3
  have t1' : (fTimes a.b a.b).2 = true := t1
  have t2' : (fTimes a.c a.c).2 = true := t2
  have t3' : (fTimes a.d a.d).2 = true := t3
  unfold sSq gt; rw [hv, t1', t2', t3', n2, n3, a4]; rfl
theorem sSq_badm {a : M4} {m : Nat} (h1 : 1 ≤ m) (h4 : m < 4) (hg : ∀ j, 1 ≤ j → j < m → (tQ a j).2 = true ∧ (nQ a j).2 = true) (hb : (tQ a m).2 = false ∨ (nQ a m).2 = false) : sSq a = (fz, false) := by
  have key : ∀ e, sSq a = gt fz e (fAdd (fAdd (fTimes a.b a.b).1 (fTimes a.c a.c).1).1 (fTimes a.d a.d).1).1 → e = true → sSq a = (fz, false) := fun e h he => by rw [h, he]; rfl
  refine key _ rfl ?_
  have n1 : (tQ a 1).2 = true → (nQ a 1).2 = true := fun t1 => by unfold nQ; rw [accQ_one, fAdd_f0 (tQ_vld t1)]
  have a2 : (tQ a 1).2 = true → accQ a 2 = (fTimes a.b a.b).1 := fun t1 => by
    rw [accQ_next a (by omega)]; unfold nQ; rw [accQ_one]
    show (fAdd f0 (tQ a 1).1).1 = _
    rw [fAdd_f0 (tQ_vld t1)]; rfl
  have e2 : (tQ a 1).2 = true → nQ a 2 = fAdd (fTimes a.b a.b).1 (fTimes a.c a.c).1 := fun t1 => by unfold nQ; rw [a2 t1]; rfl
  have e3 : (tQ a 1).2 = true → nQ a 3 = fAdd (fAdd (fTimes a.b a.b).1 (fTimes a.c a.c).1).1 (fTimes a.d a.d).1 := fun t1 => by
    unfold nQ; rw [accQ_next a (by omega), e2 t1]; rfl
  have : m = 1 ∨ m = 2 ∨ m = 3 := by omega
  rcases this with rfl | rfl | rfl
  · have hb' : (fTimes a.b a.b).2 = false := by
      rcases hb with h | h
      · exact h
      · cases ht : (tQ a 1).2
        · exact ht
        · rw [n1 ht] at h; cases h
    rw [hb']; simp
  · have t1 := (hg 1 (by omega) (by omega)).1
    rcases hb with h | h
    · have h' : (fTimes a.c a.c).2 = false := h
      rw [h']; simp
    · rw [e2 t1] at h; rw [h]; simp
  · have t1 := (hg 1 (by omega) (by omega)).1
    rcases hb with h | h
    · have h' : (fTimes a.d a.d).2 = false := h
      rw [h']; simp
    · rw [e3 t1] at h; rw [h]; simp
end Pol
