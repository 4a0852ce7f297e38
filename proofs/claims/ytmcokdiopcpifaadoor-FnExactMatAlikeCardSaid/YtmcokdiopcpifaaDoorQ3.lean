/- Plain facts: what the functions over four numbers compute, place by place. No program is in sight. -/
import Derived.Test.YtmcokdiopcpifaaDoorQ2
set_option maxRecDepth 100000
namespace Pol
/-- The flag after k places. -/
def fl (e : Bool) (f : Nat → Fr × Bool) : Nat → Bool
  | 0 => e
  | k + 1 => fl e f k || !(f k).2
def m4f (f : Nat → Fr × Bool) : M4 := ⟨(f 0).1, (f 1).1, (f 2).1, (f 3).1⟩
def m4l (e : Bool) (f : Nat → Fr × Bool) : M4 × Bool := gt m4z (fl e f 4) (m4f f)
theorem fl_false {e : Bool} {f : Nat → Fr × Bool} {n : Nat} : fl e f n = false ↔ e = false ∧ ∀ k, k < n → (f k).2 = true := by
  induction n with
  | zero => simp [fl]
  | succ n ih =>
    simp only [fl, Bool.or_eq_false_iff, Bool.not_eq_false', ih]
    constructor
    · rintro ⟨⟨h, h1⟩, h2⟩
      refine ⟨h, fun k hk => ?_⟩
      rcases Nat.lt_or_ge k n with h3 | h3
      · exact h1 k h3
      · obtain rfl : k = n := by omega
        exact h2
    · rintro ⟨h, h1⟩
      exact ⟨⟨h, fun k hk => h1 k (by omega)⟩, h1 n (by omega)⟩
theorem fl_bad {e : Bool} {f : Nat → Fr × Bool} {n k : Nat} (hk : k < n) (h : (f k).2 = false) : fl e f n = true := by
  cases hh : fl e f n
  · rw [(fl_false.1 hh).2 k hk] at h; cases h
  · rfl
theorem m4l_e {f : Nat → Fr × Bool} : m4l true f = (m4z, false) := by
  have : fl true f 4 = true := by
    cases hh : fl true f 4
    · exact absurd (fl_false.1 hh).1 (by simp)
    · rfl
  unfold m4l gt; rw [this]; rfl
theorem m4l_bad {e : Bool} {f : Nat → Fr × Bool} {k : Nat} (hk : k < 4) (h : (f k).2 = false) : m4l e f = (m4z, false) := by
  unfold m4l gt; rw [fl_bad hk h]; rfl
theorem m4l_good {f : Nat → Fr × Bool} (h : ∀ k, k < 4 → (f k).2 = true) : m4l false f = (m4f f, true) := by
  unfold m4l gt; rw [fl_false.2 ⟨rfl, h⟩]; rfl
theorem m4f_get (f : Nat → Fr × Bool) {k : Nat} (hk : k < 4) : (m4f f).get k = (f k).1 := by
  have : k = 0 ∨ k = 1 ∨ k = 2 ∨ k = 3 := by omega
  rcases this with rfl | rfl | rfl | rfl <;> rfl
/- Light on light, multiples of light, multiples of matrices. -/
def sAddF (a b : M4) (k : Nat) : Fr × Bool := fAdd (a.get k) (b.get k)
def sTimF (a : M4) (c : Fr) (k : Nat) : Fr × Bool := fTimes (a.get k) c
def sAdd (a b : M4) : M4 × Bool := m4l (false || !(all4 realB a && all4 realB b)) (sAddF a b)
def sTim (a : M4) (c : Fr) : M4 × Bool := m4l (false || !(all4 realB a && realB c)) (sTimF a c)
def mSca (a : M4) (c : Fr) : M4 × Bool := m4l (false || !(all4 vld a && vld c)) (sTimF a c)
/- Squares of the numbers of polarisation. -/
def sSq (a : M4) : Fr × Bool :=
  gt fz (((((((false || !all4 realB a) || !(fTimes a.b a.b).2) || !(fTimes a.c a.c).2) || !(fAdd (fTimes a.b a.b).1 (fTimes a.c a.c).1).2) || !(fTimes a.d a.d).2) || !(fAdd (fAdd (fTimes a.b a.b).1 (fTimes a.c a.c).1).1 (fTimes a.d a.d).1).2))
    (fAdd (fAdd (fTimes a.b a.b).1 (fTimes a.c a.c).1).1 (fTimes a.d a.d).1).1
end Pol
