/- Plain facts on exact fractions: lowest terms, the sums and products, and the values as rationals. No program is in sight. Conditions: none beyond those written. -/
namespace Pol
/-- A fraction as the program keeps it. -/
structure Fr where
  re : Int
  im : Int
  den : Int
/-- A vector: two fractions. -/
structure J2 where
  x : Fr
  y : Fr
/-- Four fractions: a matrix, or four numbers. -/
structure M4 where
  a : Fr
  b : Fr
  c : Fr
  d : Fr
def M4.get (m : M4) : Nat → Fr
  | 0 => m.a
  | 1 => m.b
  | 2 => m.c
  | _ => m.d
/-- Sixteen fractions, row by row. -/
structure M16 where
  a : M4
  b : M4
  c : M4
  d : M4
def M16.get (t : M16) : Nat → Fr
  | 0 => t.a.a | 1 => t.a.b | 2 => t.a.c | 3 => t.a.d
  | 4 => t.b.a | 5 => t.b.b | 6 => t.b.c | 7 => t.b.d
  | 8 => t.c.a | 9 => t.c.b | 10 => t.c.c | 11 => t.c.d
  | 12 => t.d.a | 13 => t.d.b | 14 => t.d.c | _ => t.d.d
/-- Do the first k pass? -/
def apre (p : Fr → Bool) (g : Nat → Fr) : Nat → Bool
  | 0 => true
  | k + 1 => apre p g k && p (g k)
theorem apre_s {p : Fr → Bool} {g : Nat → Fr} {k : Nat} (h : apre p g k = true) (h' : p (g k) = true) : apre p g (k + 1) = true := by
  show (apre p g k && p (g k)) = true; rw [h, h']; rfl
theorem apre_no {p : Fr → Bool} {g : Nat → Fr} {k : Nat} (h : p (g k) = false) : ∀ n, k < n → apre p g n = false
  | 0, hn => by omega
  | n + 1, hn => by
    show (apre p g n && p (g n)) = false
    by_cases e : n = k
    · subst e; rw [h, Bool.and_false]
    · rw [apre_no h n (by omega), Bool.false_and]
def all4 (p : Fr → Bool) (m : M4) : Bool := apre p m.get 4
def all16 (p : Fr → Bool) (t : M16) : Bool := apre p t.get 16
def gc (a b : Int) : Int := (Int.gcd a b : Nat)
def g3 (re im den : Int) : Int := gc (gc re im) den
theorem gc_nonneg (a b : Int) : 0 ≤ gc a b := by unfold gc; omega
theorem gc_zero (a : Int) : gc a 0 = a.natAbs := by unfold gc; simp
theorem gc_abs_left (a b : Int) : gc (a.natAbs : Int) b = gc a b := by
  unfold gc; simp [Int.gcd]
theorem gc_abs_right (a b : Int) : gc a (b.natAbs : Int) = gc a b := by
  unfold gc; simp [Int.gcd]
theorem gc_tmod (a b : Int) : gc b (a.tmod b) = gc a b := by
  unfold gc Int.gcd
  rw [Int.natAbs_tmod, Nat.gcd_comm, ← Nat.gcd_rec, Nat.gcd_comm]
theorem g3_pos (re im den : Int) (h : 1 ≤ den) : 1 ≤ g3 re im den := by
  unfold g3 gc
  have := Int.gcd_pos_of_ne_zero_right (Int.gcd re im : Int) (b := den) (by omega)
  omega
theorem g3_dvd (re im den : Int) : g3 re im den ∣ re ∧ g3 re im den ∣ im ∧ g3 re im den ∣ den := by
  unfold g3 gc
  have h1 := Int.gcd_dvd_left (Int.gcd re im : Int) den
  refine ⟨Int.dvd_trans h1 (Int.gcd_dvd_left re im), Int.dvd_trans h1 (Int.gcd_dvd_right re im), Int.gcd_dvd_right _ _⟩
theorem gc_mul (k a b : Int) (hk : 0 ≤ k) : gc (k * a) (k * b) = k * gc a b := by
  unfold gc; rw [Int.gcd_mul_left]; push_cast; rw [Int.natAbs_of_nonneg hk]
theorem g3_mul (k a b c : Int) (hk : 0 ≤ k) : g3 (k * a) (k * b) (k * c) = k * g3 a b c := by
  unfold g3; rw [gc_mul _ _ _ hk, gc_mul _ _ _ hk]
def P : Int := 2000000000
def inP (n : Int) : Bool := decide (-2000000000 ≤ n) && decide (n ≤ 2000000000)
/-- Is it an exact fraction? -/
def vld (f : Fr) : Bool := inP f.re && inP f.im && (decide (1 ≤ f.den) && decide (f.den ≤ 2000000000)) && decide (g3 f.re f.im f.den = 1)
theorem vld_iff (f : Fr) : vld f = true ↔ (-2000000000 ≤ f.re ∧ f.re ≤ 2000000000) ∧ (-2000000000 ≤ f.im ∧ f.im ≤ 2000000000) ∧ (1 ≤ f.den ∧ f.den ≤ 2000000000) ∧ g3 f.re f.im f.den = 1 := by
  unfold vld inP; simp [Bool.and_eq_true, and_assoc]
def fz : Fr := ⟨0, 0, 0⟩
def f0 : Fr := ⟨0, 0, 1⟩
def f1 : Fr := ⟨1, 0, 1⟩
/-- Lowest terms. -/
def cut (re im den : Int) : Fr := ⟨re.tdiv (g3 re im den), im.tdiv (g3 re im den), den.tdiv (g3 re im den)⟩
/-- Lowest terms, and whether that is an exact fraction (the bottom at least 1). -/
def lowB (re im den : Int) : Bool := inP (cut re im den).re && inP (cut re im den).im && decide ((cut re im den).den ≤ 2000000000)
def low (re im den : Int) : Fr × Bool := if lowB re im den = true then (cut re im den, true) else (fz, false)
theorem cut_mul (re im den : Int) : (cut re im den).re * g3 re im den = re ∧ (cut re im den).im * g3 re im den = im ∧ (cut re im den).den * g3 re im den = den := by
  obtain ⟨h1, h2, h3⟩ := g3_dvd re im den
  exact ⟨Int.tdiv_mul_cancel h1, Int.tdiv_mul_cancel h2, Int.tdiv_mul_cancel h3⟩
theorem cut_g3 (re im den : Int) (h : 1 ≤ den) : g3 (cut re im den).re (cut re im den).im (cut re im den).den = 1 := by
  obtain ⟨h1, h2, h3⟩ := cut_mul re im den
  have hp := g3_pos re im den h
  have := g3_mul (g3 re im den) (cut re im den).re (cut re im den).im (cut re im den).den (by omega)
  rw [Int.mul_comm, h1, Int.mul_comm (g3 re im den), h2, Int.mul_comm (g3 re im den) (cut re im den).den, h3] at this
  have h4 : g3 re im den * 1 = g3 re im den * g3 (cut re im den).re (cut re im den).im (cut re im den).den := by rw [Int.mul_one]; exact this
  exact (Int.eq_of_mul_eq_mul_left (by omega) h4).symm
theorem cut_den_pos (re im den : Int) (h : 1 ≤ den) : 1 ≤ (cut re im den).den := by
  obtain ⟨_, _, h3⟩ := cut_mul re im den
  have hp := g3_pos re im den h
  rcases Int.lt_or_le 0 (cut re im den).den with h4 | h4
  · omega
  · have := Int.mul_nonneg (a := -(cut re im den).den) (b := g3 re im den) (by omega) (by omega)
    rw [Int.neg_mul] at this
    omega
theorem lowB_vld (re im den : Int) (h : 1 ≤ den) : lowB re im den = vld (cut re im den) := by
  have h1 := cut_g3 re im den h
  have h2 := cut_den_pos re im den h
  rw [Bool.eq_iff_iff, vld_iff]
  unfold lowB inP
  simp only [Bool.and_eq_true, decide_eq_true_eq]
  constructor
  · intro ⟨⟨a, b⟩, c⟩; exact ⟨a, b, ⟨h2, c⟩, h1⟩
  · intro ⟨a, b, ⟨_, c⟩, _⟩; exact ⟨⟨a, b⟩, c⟩
def fAdd (a b : Fr) : Fr × Bool := if (vld a && vld b) = true then low (a.re * b.den + b.re * a.den) (a.im * b.den + b.im * a.den) (a.den * b.den) else (fz, false)
def fLess (a b : Fr) : Fr × Bool := if (vld a && vld b) = true then low (a.re * b.den - b.re * a.den) (a.im * b.den - b.im * a.den) (a.den * b.den) else (fz, false)
def fTimes (a b : Fr) : Fr × Bool := if (vld a && vld b) = true then low (a.re * b.re - a.im * b.im) (a.re * b.im + a.im * b.re) (a.den * b.den) else (fz, false)
def fMirror (a : Fr) : Fr × Bool := if vld a = true then (⟨a.re, -a.im, a.den⟩, true) else (fz, false)
def fPower (a : Fr) : Fr × Bool := if vld a = true then low (a.re * a.re + a.im * a.im) 0 (a.den * a.den) else (fz, false)
def realB (a : Fr) : Bool := vld a && decide (a.im = 0)
def rv (f : Fr) : Rat := (f.re : Rat) / (f.den : Rat)
def iv (f : Fr) : Rat := (f.im : Rat) / (f.den : Rat)
theorem castInt_ne {d : Int} (h : 1 ≤ d) : (d : Rat) ≠ 0 := by
  intro e
  have : ((d : Int) : Rat) = ((0 : Int) : Rat) := by simpa using e
  rw [Rat.intCast_inj] at this; omega
theorem frac_eq {a b c d : Int} (hb : 1 ≤ b) (hd : 1 ≤ d) : ((a : Rat) / (b : Rat) = (c : Rat) / (d : Rat)) ↔ a * d = c * b := by
  have h1 := castInt_ne hb
  have h2 := castInt_ne hd
  rw [← Rat.intCast_inj (a := a * d), Rat.intCast_mul, Rat.intCast_mul]
  constructor <;> intro h <;> grind
theorem vld_den {f : Fr} (h : vld f = true) : 1 ≤ f.den := ((vld_iff f).1 h).2.2.1.1
theorem cut_val (re im den : Int) (h : 1 ≤ den) : rv (cut re im den) = (re : Rat) / (den : Rat) ∧ iv (cut re im den) = (im : Rat) / (den : Rat) := by
  obtain ⟨h1, h2, h3⟩ := cut_mul re im den
  have hd := cut_den_pos re im den h
  constructor
  · exact (frac_eq hd h).2 (by
      have : (cut re im den).re * ((cut re im den).den * g3 re im den) = ((cut re im den).re * g3 re im den) * (cut re im den).den := by grind
      rw [h1, h3] at this; exact this)
  · exact (frac_eq hd h).2 (by
      have : (cut re im den).im * ((cut re im den).den * g3 re im den) = ((cut re im den).im * g3 re im den) * (cut re im den).den := by grind
      rw [h2, h3] at this; exact this)
/-- What low gives where it gives one. -/
theorem low_ok {re im den : Int} {f : Fr} (h : 1 ≤ den) : low re im den = (f, true) ↔ vld f = true ∧ rv f = (re : Rat) / (den : Rat) ∧ iv f = (im : Rat) / (den : Rat) := by
  obtain ⟨v1, v2⟩ := cut_val re im den h
  unfold low
  rw [lowB_vld _ _ _ h]
  constructor
  · intro e
    split at e
    · next hv => obtain ⟨rfl, _⟩ := Prod.mk.inj e; exact ⟨hv, v1, v2⟩
    · exact absurd (Prod.mk.inj e).2 (by simp)
  · intro ⟨hf, e1, e2⟩
    have : cut re im den = f := by
      -- lowest terms are smallest: f is the cut
      have a1 := vld_den hf
      have c1 := cut_den_pos re im den h
      have q1 : rv (cut re im den) = rv f := v1.trans e1.symm
      have q2 : iv (cut re im den) = iv f := v2.trans e2.symm
      have p1 := (frac_eq c1 a1).1 q1
      have p2 := (frac_eq c1 a1).1 q2
      have g1 := cut_g3 re im den h
      have g2 := ((vld_iff f).1 hf).2.2.2
      generalize cut re im den = c at *
      have k1 : g3 (c.re * f.den) (c.im * f.den) (c.den * f.den) = f.den := by
        rw [Int.mul_comm c.re, Int.mul_comm c.im, Int.mul_comm c.den, g3_mul _ _ _ _ (by omega), g1]; omega
      have k2 : g3 (f.re * c.den) (f.im * c.den) (f.den * c.den) = c.den := by
        rw [Int.mul_comm f.re, Int.mul_comm f.im, Int.mul_comm f.den, g3_mul _ _ _ _ (by omega), g2]; omega
      rw [p1, p2, Int.mul_comm c.den f.den, k2] at k1
      obtain ⟨r1, i1, d1⟩ := f
      obtain ⟨r2, i2, d2⟩ := c
      simp only at *
      subst k1
      have hr := Int.eq_of_mul_eq_mul_right (by omega) p1
      have hi := Int.eq_of_mul_eq_mul_right (by omega) p2
      rw [hr, hi]
    rw [this, if_pos hf]
theorem low_no (re im den : Int) : (low re im den).2 = false → low re im den = (fz, false) := by
  unfold low; split <;> simp
theorem den_mul_pos {a b : Fr} (ha : vld a = true) (hb : vld b = true) : 1 ≤ a.den * b.den := by
  have h1 := vld_den ha
  have h2 := vld_den hb
  have := Int.mul_pos (a := a.den) (b := b.den) (by omega) (by omega)
  omega
theorem vld_cast {a : Fr} (h : vld a = true) : (a.den : Rat) ≠ 0 := castInt_ne (vld_den h)
theorem fAdd_ok {a b c : Fr} : fAdd a b = (c, true) ↔ vld a = true ∧ vld b = true ∧ vld c = true ∧ rv c = rv a + rv b ∧ iv c = iv a + iv b := by
  unfold fAdd
  by_cases hv : (vld a && vld b) = true
  · rw [if_pos hv]
    simp only [Bool.and_eq_true] at hv
    obtain ⟨ha, hb⟩ := hv
    rw [low_ok (den_mul_pos ha hb)]
    have h1 := vld_cast ha
    have h2 := vld_cast hb
    have e1 : ((a.re * b.den + b.re * a.den : Int) : Rat) / ((a.den * b.den : Int) : Rat) = rv a + rv b := by
      unfold rv; rw [Rat.intCast_add, Rat.intCast_mul, Rat.intCast_mul, Rat.intCast_mul]; grind
    have e2 : ((a.im * b.den + b.im * a.den : Int) : Rat) / ((a.den * b.den : Int) : Rat) = iv a + iv b := by
      unfold iv; rw [Rat.intCast_add, Rat.intCast_mul, Rat.intCast_mul, Rat.intCast_mul]; grind
    rw [e1, e2]; simp [ha, hb]
  · rw [if_neg hv]
    constructor
    · intro e; exact absurd (Prod.mk.inj e).2 (by simp)
    · intro ⟨ha, hb, _⟩; exact absurd (by rw [ha, hb]; rfl) hv
theorem fTimes_ok {a b c : Fr} : fTimes a b = (c, true) ↔ vld a = true ∧ vld b = true ∧ vld c = true ∧ rv c = rv a * rv b - iv a * iv b ∧ iv c = rv a * iv b + iv a * rv b := by
  unfold fTimes
  by_cases hv : (vld a && vld b) = true
  · rw [if_pos hv]
    simp only [Bool.and_eq_true] at hv
    obtain ⟨ha, hb⟩ := hv
    rw [low_ok (den_mul_pos ha hb)]
    have h1 := vld_cast ha
    have h2 := vld_cast hb
    have e1 : ((a.re * b.re - a.im * b.im : Int) : Rat) / ((a.den * b.den : Int) : Rat) = rv a * rv b - iv a * iv b := by
      unfold rv iv; rw [Rat.intCast_sub, Rat.intCast_mul, Rat.intCast_mul, Rat.intCast_mul]; grind
    have e2 : ((a.re * b.im + a.im * b.re : Int) : Rat) / ((a.den * b.den : Int) : Rat) = rv a * iv b + iv a * rv b := by
      unfold rv iv; rw [Rat.intCast_add, Rat.intCast_mul, Rat.intCast_mul, Rat.intCast_mul]; grind
    rw [e1, e2]; simp [ha, hb]
  · rw [if_neg hv]
    constructor
    · intro e; exact absurd (Prod.mk.inj e).2 (by simp)
    · intro ⟨ha, hb, _⟩; exact absurd (by rw [ha, hb]; rfl) hv
theorem fPower_ok {a c : Fr} : fPower a = (c, true) ↔ vld a = true ∧ vld c = true ∧ rv c = rv a * rv a + iv a * iv a ∧ iv c = 0 := by
  unfold fPower
  by_cases hv : vld a = true
  · rw [if_pos hv, low_ok (den_mul_pos hv hv)]
    have h1 := vld_cast hv
    have e1 : ((a.re * a.re + a.im * a.im : Int) : Rat) / ((a.den * a.den : Int) : Rat) = rv a * rv a + iv a * iv a := by
      unfold rv iv; rw [Rat.intCast_add, Rat.intCast_mul, Rat.intCast_mul, Rat.intCast_mul]; grind
    have e2 : ((0 : Int) : Rat) / ((a.den * a.den : Int) : Rat) = 0 := by
      rw [Rat.intCast_mul]; grind
    rw [e1, e2]; simp [hv]
  · rw [if_neg hv]
    constructor
    · intro e; exact absurd (Prod.mk.inj e).2 (by simp)
    · intro ⟨ha, _⟩; exact absurd ha hv
theorem fAdd_no (a b : Fr) : (fAdd a b).2 = false → fAdd a b = (fz, false) := by
  unfold fAdd; split
  · exact low_no _ _ _
  · intro _; rfl
theorem fLess_no (a b : Fr) : (fLess a b).2 = false → fLess a b = (fz, false) := by
  unfold fLess; split
  · exact low_no _ _ _
  · intro _; rfl
theorem fTimes_no (a b : Fr) : (fTimes a b).2 = false → fTimes a b = (fz, false) := by
  unfold fTimes; split
  · exact low_no _ _ _
  · intro _; rfl
theorem fMirror_no (a : Fr) : (fMirror a).2 = false → fMirror a = (fz, false) := by
  unfold fMirror; split
  · simp
  · intro _; rfl
theorem fPower_no (a : Fr) : (fPower a).2 = false → fPower a = (fz, false) := by
  unfold fPower; split
  · exact low_no _ _ _
  · intro _; rfl
theorem fTimes_vld {a b : Fr} (h : (fTimes a b).2 = true) : vld a = true ∧ vld b = true ∧ vld (fTimes a b).1 = true := by
  have := fTimes_ok.1 (show fTimes a b = ((fTimes a b).1, true) by rw [← h])
  exact ⟨this.1, this.2.1, this.2.2.1⟩
theorem fPower_vld {a : Fr} (h : (fPower a).2 = true) : vld a = true ∧ vld (fPower a).1 = true := by
  have := fPower_ok.1 (show fPower a = ((fPower a).1, true) by rw [← h])
  exact ⟨this.1, this.2.1⟩
end Pol
