/- Plain facts: what the functions over vectors compute. No program is in sight. -/
import Derived.Test.YtmcokdiopcpifaaDoorQ
set_option maxRecDepth 100000
namespace Pol
/-- A value, or its zero where something on the way is none. -/
def gt {α : Type} (z : α) (e : Bool) (x : α) : α × Bool := if e = true then (z, false) else (x, true)
theorem gt_no {α : Type} {z : α} {e : Bool} {x : α} (h : (gt z e x).2 = false) : gt z e x = (z, false) := by unfold gt at h ⊢; cases e <;> simp_all
theorem gt_end {α : Type} (z : α) (e : Bool) (x : α) : e = !(gt z e x).2 ∧ ((gt z e x).2 = true → x = (gt z e x).1) := by unfold gt; cases e <;> simp
theorem pair_t {α : Type} {g : α × Bool} (h : g.2 = true) : g = (g.1, true) := by cases g; simp_all
theorem fTimes_bad1 {a b : Fr} (h : vld a = false) : fTimes a b = (fz, false) := by unfold fTimes; rw [h]; simp
theorem fTimes_bad2 {a b : Fr} (h : vld b = false) : fTimes a b = (fz, false) := by unfold fTimes; rw [h]; simp
theorem fAdd_bad1 {a b : Fr} (h : vld a = false) : fAdd a b = (fz, false) := by unfold fAdd; rw [h]; simp
theorem fAdd_bad2 {a b : Fr} (h : vld b = false) : fAdd a b = (fz, false) := by unfold fAdd; rw [h]; simp
theorem fPower_bad {a : Fr} (h : vld a = false) : fPower a = (fz, false) := by unfold fPower; rw [h]; simp
/-- The power, the reference's way. -/
def fPow2 (a : Fr) : Fr × Bool := if (fMirror a).2 = true then fTimes a (fMirror a).1 else (fz, false)
theorem fPow2_eq (a : Fr) : fPow2 a = fPower a := fPower_spec a
def jv (a : J2) : Bool := vld a.x && vld a.y
theorem jv_iff {a : J2} : jv a = true ↔ vld a.x = true ∧ vld a.y = true := by unfold jv; simp

/- Powers of vectors. -/
def jPow (a : J2) : Fr × Bool := if ((fPower a.x).2 && (fPower a.y).2) = true then fAdd (fPower a.x).1 (fPower a.y).1 else (fz, false)
def jPowI (a : J2) : Fr × Bool := gt fz ((((false || !jv a) || !(fPower a.x).2) || !(fPower a.y).2) || !(fAdd (fPower a.x).1 (fPower a.y).1).2) (fAdd (fPower a.x).1 (fPower a.y).1).1
theorem jPowI_eq (a : J2) : jPowI a = jPow a := by
  unfold jPowI jPow gt
  cases h1 : (fPower a.x).2
  · simp
  cases h2 : (fPower a.y).2
  · simp
  have hv : jv a = true := jv_iff.2 ⟨(fPower_vld h1).1, (fPower_vld h2).1⟩
  cases h3 : (fAdd (fPower a.x).1 (fPower a.y).1).2
  · simp [hv, fAdd_no _ _ h3]
  · simp [hv, (pair_t h3).symm]

/- The sum of two products. -/
def fIn (a b c d : Fr) : Fr × Bool := if ((fTimes a b).2 && (fTimes c d).2) = true then fAdd (fTimes a b).1 (fTimes c d).1 else (fz, false)
def eIn (e : Bool) (a b c d : Fr) : Bool := ((e || !(fTimes a b).2) || !(fTimes c d).2) || !(fAdd (fTimes a b).1 (fTimes c d).1).2
theorem fIn_no (a b c d : Fr) (h : (fIn a b c d).2 = false) : fIn a b c d = (fz, false) := by
  unfold fIn at h ⊢
  split
  · next hh => rw [if_pos hh] at h; exact fAdd_no _ _ h
  · rfl
theorem eIn_eq (e : Bool) (a b c d : Fr) : eIn e a b c d = (e || !(fIn a b c d).2) := by
  unfold eIn fIn
  cases h1 : (fTimes a b).2
  · simp
  cases h2 : (fTimes c d).2
  · simp
  simp
theorem fIn_val {a b c d : Fr} (h : (fIn a b c d).2 = true) : (fAdd (fTimes a b).1 (fTimes c d).1).1 = (fIn a b c d).1 := by
  unfold fIn at h ⊢
  split
  · rfl
  · next hh => rw [if_neg hh] at h; cases h
theorem fIn_vld {a b c d : Fr} (h : (fIn a b c d).2 = true) : (vld a = true ∧ vld b = true) ∧ vld c = true ∧ vld d = true := by
  unfold fIn at h
  split at h
  · next hh =>
    simp only [Bool.and_eq_true] at hh
    exact ⟨⟨(fTimes_vld hh.1).1, (fTimes_vld hh.1).2.1⟩, (fTimes_vld hh.2).1, (fTimes_vld hh.2).2.1⟩
  · cases h
/-- Inner products. -/
def jIn (a b : J2) : Fr × Bool := if ((fMirror b.x).2 && (fMirror b.y).2) = true then fIn a.x (fMirror b.x).1 a.y (fMirror b.y).1 else (fz, false)
def eJin (a b : J2) : Bool := ((((((false || !(jv a && jv b)) || !(fMirror b.x).2) || !(fTimes a.x (fMirror b.x).1).2) || !(fMirror b.y).2) || !(fTimes a.y (fMirror b.y).1).2) || !(fAdd (fTimes a.x (fMirror b.x).1).1 (fTimes a.y (fMirror b.y).1).1).2)
def jInI (a b : J2) : Fr × Bool := gt fz (eJin a b) (fAdd (fTimes a.x (fMirror b.x).1).1 (fTimes a.y (fMirror b.y).1).1).1
theorem jInI_eq (a b : J2) : jInI a b = jIn a b := by
  unfold jInI jIn gt eJin
  cases h1 : (fMirror b.x).2
  · simp
  cases h2 : (fMirror b.y).2
  · simp
  have hi := eIn_eq false a.x (fMirror b.x).1 a.y (fMirror b.y).1
  unfold eIn at hi
  cases h3 : (fIn a.x (fMirror b.x).1 a.y (fMirror b.y).1).2
  · rw [h3] at hi
    simp only [Bool.false_or, Bool.not_false] at hi
    simp only [Bool.false_or, Bool.not_true, Bool.or_false, Bool.and_self, if_true, fIn_no _ _ _ _ h3]
    rw [if_pos]
    simp only [Bool.or_eq_true] at hi ⊢
    rcases hi with (h | h) | h
    · exact Or.inl (Or.inl (Or.inr h))
    · exact Or.inl (Or.inr h)
    · exact Or.inr h
  · rw [h3] at hi
    simp only [Bool.false_or, Bool.not_true, Bool.or_eq_false_iff] at hi
    have ha := fIn_vld h3
    have hb := (fMirror_vld h1).1
    have hc := (fMirror_vld h2).1
    have hv : (jv a && jv b) = true := by simp [jv, ha.1.1, ha.2.1, hb, hc]
    rw [hv, hi.1.1, hi.1.2, hi.2, fIn_val h3]
    simp [(pair_t h3).symm]

/- Sums, multiples and mirrored vectors. -/
def j2of (p q : Fr × Bool) : J2 × Bool := if (p.2 && q.2) = true then (⟨p.1, q.1⟩, true) else (j2z, false)
theorem j2of_eq (p q : Fr × Bool) : gt j2z ((false || !p.2) || !q.2) ⟨p.1, q.1⟩ = j2of p q := by
  unfold gt j2of; cases p.2 <;> cases q.2 <;> simp
def jAdd (a b : J2) : J2 × Bool := j2of (fAdd a.x b.x) (fAdd a.y b.y)
def jMir (a : J2) : J2 × Bool := j2of (fMirror a.x) (fMirror a.y)
def jTim (a : J2) (c : Fr) : J2 × Bool := j2of (fTimes a.x c) (fTimes a.y c)
def jAddI (a b : J2) : J2 × Bool := gt j2z ((false || !(fAdd a.x b.x).2) || !(fAdd a.y b.y).2) ⟨(fAdd a.x b.x).1, (fAdd a.y b.y).1⟩
def jMirI (a : J2) : J2 × Bool := gt j2z ((false || !(fMirror a.x).2) || !(fMirror a.y).2) ⟨(fMirror a.x).1, (fMirror a.y).1⟩
def jTimI (a : J2) (c : Fr) : J2 × Bool := gt j2z (((false || !(jv a && vld c)) || !(fTimes a.x c).2) || !(fTimes a.y c).2) ⟨(fTimes a.x c).1, (fTimes a.y c).1⟩
theorem jAddI_eq (a b : J2) : jAddI a b = jAdd a b := j2of_eq _ _
theorem jMirI_eq (a : J2) : jMirI a = jMir a := j2of_eq _ _
theorem jTimI_eq (a : J2) (c : Fr) : jTimI a c = jTim a c := by
  unfold jTimI jTim
  rw [← j2of_eq]
  cases h1 : (fTimes a.x c).2
  · simp
  cases h2 : (fTimes a.y c).2
  · simp
  have hv : (jv a && vld c) = true := by simp [jv, (fTimes_vld h1).1, (fTimes_vld h2).1, (fTimes_vld h1).2.1]
  rw [hv]; rfl
end Pol
