/- Plain facts about floats: the word of a quotient of two integers, rounded to the narrow format and back; all is alike for opposite numbers. -/
import Derived.Laws.FloatArith
set_option maxRecDepth 100000
namespace Go.Proofs.Ytamdjgehmmogjaa
open Ieee
/-- The rung of the nearest word. -/
def rgN (f : Format) (mag : Nat) (place : Int) : Nat :=
  if mag = 0 then 0 else
  min (((max (place + mag.log2 - f.fractionBits) f.leastPlace) - f.leastPlace).toNat * f.binade
    + Toward.even.cut false (mag <<< (place - (max (place + mag.log2 - f.fractionBits) f.leastPlace)).toNat) ((max (place + mag.log2 - f.fractionBits) f.leastPlace) - place).toNat) f.infRung
theorem nearest_rg (f : Format) (s : Bool) (m : Nat) (p : Int) : f.nearest s m p = f.word s (rgN f m p) := by
  unfold Format.nearest rgN
  split
  · rfl
  · rfl
def mgR (f : Format) (R : Nat) : Nat := if R < f.binade then R else f.binade + R % f.binade
def plR (f : Format) (R : Nat) : Int := if R < f.binade then f.leastPlace else f.leastPlace + (R / f.binade - 1 : Nat)
theorem read_word (f : Format) (s : Bool) {R : Nat} (h : R < f.infRung) : f.read (f.word s R) = .number s (mgR f R) (plR f R) := by
  have hs := f.infRung_lt
  have hR : R < f.signWeight := Nat.lt_trans h hs
  have hp : 0 < f.signWeight := by omega
  have h1 : (f.word s R / f.signWeight % 2 == 1) = s := by
    cases s
    · show (R / f.signWeight % 2 == 1) = false
      rw [Nat.div_eq_of_lt hR]; rfl
    · show ((f.signWeight + R) / f.signWeight % 2 == 1) = true
      rw [Nat.add_div_left _ hp, Nat.div_eq_of_lt hR]; rfl
  have h2 : f.word s R % f.signWeight = R := by
    cases s
    · exact Nat.mod_eq_of_lt hR
    · show (f.signWeight + R) % f.signWeight = R
      rw [Nat.add_mod_left]; exact Nat.mod_eq_of_lt hR
  unfold Format.read
  simp only [h1, h2]
  unfold mgR plR
  split
  · rfl
  · rfl
theorem mgR_lt (f : Format) (R : Nat) : mgR f R < 2 ^ (f.fractionBits + 1) := by
  unfold mgR
  have hb : f.binade = 2 ^ f.fractionBits := rfl
  have hp : 0 < f.binade := Nat.two_pow_pos _
  rw [Nat.pow_succ]
  have := Nat.mod_lt R hp
  split <;> omega
theorem mgR_log (f : Format) (R : Nat) : (mgR f R).log2 ≤ f.fractionBits := by
  by_cases h : mgR f R = 0
  · rw [h]; simp
  · have := (Nat.log2_lt h).2 (mgR_lt f R)
    omega
/-- The place of the first digit is bounded by the rung. -/
theorem top_le (f : Format) {R K : Nat} (hK : 1 ≤ K) (h : R ≤ K * f.binade) : plR f R + (mgR f R).log2 ≤ f.leastPlace + K - 1 + f.fractionBits := by
  have hl := mgR_log f R
  have hp : 0 < f.binade := Nat.two_pow_pos _
  unfold plR
  split
  · omega
  · have : R / f.binade ≤ K := by
      rw [Nat.div_le_iff_le_mul_add_pred hp, Nat.mul_comm]; omega
    omega
theorem cut_zero (n : Nat) : Toward.even.cut false n 0 = n := by
  unfold Toward.cut
  simp [Nat.mod_one]
theorem cut_le (n d : Nat) : Toward.even.cut false n d ≤ n / (1 <<< min d (n.log2 + 2)) + 1 := by
  unfold Toward.cut
  simp only
  have : ∀ b : Bool, b.toNat ≤ 1 := by decide
  have := this (decide (1 <<< min d (n.log2 + 2) < 2 * (n % 1 <<< min d (n.log2 + 2))) || 1 <<< min d (n.log2 + 2) == 2 * (n % 1 <<< min d (n.log2 + 2)) && n / 1 <<< min d (n.log2 + 2) % 2 == 1)
  omega
theorem kept_le (f : Format) {m : Nat} {p last : Int} (hl : p + m.log2 - f.fractionBits ≤ last) :
    Toward.even.cut false (m <<< (p - last).toNat) (last - p).toNat ≤ 2 * f.binade := by
  have hb : 2 * f.binade = 2 ^ (f.fractionBits + 1) := by rw [Nat.pow_succ, Nat.mul_comm]; rfl
  rw [hb]
  have hlt := @Nat.lt_log2_self m
  by_cases h : last ≤ p
  · rw [show (last - p).toNat = 0 from by omega, cut_zero, Nat.shiftLeft_eq]
    have h1 : m * 2 ^ (p - last).toNat < 2 ^ (m.log2 + 1) * 2 ^ (p - last).toNat := Nat.mul_lt_mul_of_pos_right hlt (Nat.two_pow_pos _)
    rw [← Nat.pow_add] at h1
    have h2 : 2 ^ (m.log2 + 1 + (p - last).toNat) ≤ 2 ^ (f.fractionBits + 1) := Nat.pow_le_pow_right (by omega) (by omega)
    omega
  · rw [show (p - last).toNat = 0 from by omega, Nat.shiftLeft_zero]
    obtain ⟨d, hd⟩ : ∃ d, d = (last - p).toNat := ⟨_, rfl⟩
    rw [← hd]
    refine Nat.le_trans (cut_le m d) ?_
    rw [Nat.shiftLeft_eq, Nat.one_mul]
    have h1 : m / 2 ^ min d (m.log2 + 2) < 2 ^ (f.fractionBits + 1) := by
      rw [Nat.div_lt_iff_lt_mul (Nat.two_pow_pos _), ← Nat.pow_add]
      exact Nat.lt_of_lt_of_le hlt (Nat.pow_le_pow_right (by omega) (by omega))
    omega
/-- The rung of the nearest word is bounded. -/
theorem rgN_le (f : Format) (m : Nat) (p : Int) (K : Nat) (hK : 2 ≤ K) (h : p + m.log2 - f.fractionBits - f.leastPlace + 2 ≤ K) : rgN f m p ≤ K * f.binade := by
  unfold rgN
  split
  · exact Nat.zero_le _
  · next hm =>
    refine Nat.le_trans (Nat.min_le_left _ _) ?_
    have hk := kept_le f (m := m) (p := p) (last := max (p + m.log2 - f.fractionBits) f.leastPlace) (by omega)
    have h2 : ((max (p + m.log2 - f.fractionBits) f.leastPlace) - f.leastPlace).toNat ≤ K - 2 := by omega
    have h3 : ((max (p + m.log2 - f.fractionBits) f.leastPlace) - f.leastPlace).toNat * f.binade ≤ (K - 2) * f.binade := Nat.mul_le_mul_right _ h2
    have h4 : K * f.binade = (K - 2) * f.binade + 2 * f.binade := by rw [← Nat.add_mul]; congr 1; omega
    omega
/-- The float of an integer that is not great. -/
def iR (a : Nat) : Nat := rgN double a 0
theorem iR_le {a : Nat} (h : a ≤ 2000000000) : iR a ≤ 1055 * double.binade := by
  refine rgN_le double a 0 1055 (by omega) ?_
  have : a.log2 ≤ 30 := by
    by_cases h0 : a = 0
    · rw [h0]; simp
    · have := (Nat.log2_lt h0 (k := 31)).2 (by omega)
      omega
  have e1 : (double.fractionBits : Int) = 52 := rfl
  have e2 : double.leastPlace = -1074 := by decide
  omega
theorem dbl_inf {K R : Nat} (h : R ≤ K * double.binade) (hK : K < 2047) : R < double.infRung := by
  have e : double.infRung = 2047 * double.binade := rfl
  have hp : 0 < double.binade := Nat.two_pow_pos _
  rw [e]
  exact Nat.lt_of_le_of_lt h (Nat.mul_lt_mul_of_pos_right hK hp)
theorem sgl_inf {K R : Nat} (h : R ≤ K * single.binade) (hK : K < 255) : R < single.infRung := by
  have e : single.infRung = 255 * single.binade := rfl
  have hp : 0 < single.binade := Nat.two_pow_pos _
  rw [e]
  exact Nat.lt_of_le_of_lt h (Nat.mul_lt_mul_of_pos_right hK hp)
theorem iR_ge {a : Nat} (h1 : 1 ≤ a) (h : a ≤ 2000000000) : 1023 * double.binade ≤ iR a := by
  have h0 : a ≠ 0 := by omega
  have hl : a.log2 ≤ 30 := by
    have := (Nat.log2_lt h0 (k := 31)).2 (by omega)
    omega
  have e1 : (double.fractionBits : Int) = 52 := rfl
  have e2 : double.leastPlace = -1074 := by decide
  have hm : max ((0 : Int) + a.log2 - double.fractionBits) double.leastPlace = a.log2 - 52 := by omega
  unfold iR rgN
  rw [if_neg h0, hm, show ((a.log2 : Int) - 52 - 0).toNat = 0 from by omega, cut_zero, Nat.shiftLeft_eq, e2]
  have hs := Nat.log2_self_le h0
  have hb : double.binade = 2 ^ 52 := rfl
  have h3 : 2 ^ a.log2 * 2 ^ ((0 : Int) - (a.log2 - 52)).toNat ≤ a * 2 ^ ((0 : Int) - (a.log2 - 52)).toNat := Nat.mul_le_mul_right _ hs
  rw [← Nat.pow_add, show a.log2 + ((0 : Int) - (a.log2 - 52)).toNat = 52 from by omega] at h3
  have h4 : 1022 * double.binade ≤ ((a.log2 : Int) - 52 - -1074).toNat * double.binade := Nat.mul_le_mul_right _ (by omega)
  have e3 : double.infRung = 2047 * double.binade := rfl
  refine Nat.le_min.2 ⟨by omega, by rw [e3]; exact Nat.mul_le_mul_right _ (by omega)⟩
theorem den_top {b : Nat} (h1 : 1 ≤ b) (h : b ≤ 2000000000) : mgR double (iR b) ≠ 0 ∧ 0 ≤ plR double (iR b) + (mgR double (iR b)).log2 := by
  have hg := iR_ge h1 h
  have hp : 0 < double.binade := Nat.two_pow_pos _
  have hb : double.binade = 2 ^ 52 := rfl
  have e2 : double.leastPlace = -1074 := by decide
  have hn : ¬ iR b < double.binade := by omega
  unfold mgR plR
  rw [if_neg hn, if_neg hn]
  have hd : 1023 ≤ iR b / double.binade := by
    rw [Nat.le_div_iff_mul_le hp]; exact hg
  have h0 : double.binade + iR b % double.binade ≠ 0 := by omega
  have hl : 52 ≤ (double.binade + iR b % double.binade).log2 := (Nat.le_log2 h0).2 (by omega)
  exact ⟨h0, by omega⟩
/-- The quotient's digits and place. -/
def qM (m n : Nat) : Nat := 2 * ((m <<< (54 + n.log2 - m.log2)) / n) + ((m <<< (54 + n.log2 - m.log2)) % n != 0).toNat
def qP (m n : Nat) (i j : Int) : Int := i - j - ((54 + n.log2 - m.log2 : Nat) : Int) - 1
theorem quo_top {m n : Nat} {i j : Int} (hm : m.log2 ≤ 52) (hn : n ≠ 0) : qP m n i j + (qM m n).log2 ≤ (i + m.log2) - (j + n.log2) := by
  have hlt : m < 2 ^ (m.log2 + 1) := Nat.lt_log2_self
  have hle := Nat.log2_self_le hn
  have h1 : m <<< (54 + n.log2 - m.log2) < 2 ^ (55 + n.log2) := by
    rw [Nat.shiftLeft_eq]
    have h1 : m * 2 ^ (54 + n.log2 - m.log2) < 2 ^ (m.log2 + 1) * 2 ^ (54 + n.log2 - m.log2) := Nat.mul_lt_mul_of_pos_right hlt (Nat.two_pow_pos _)
    rw [← Nat.pow_add] at h1
    exact Nat.lt_of_lt_of_le h1 (Nat.pow_le_pow_right (by omega) (by omega))
  have h2 : (m <<< (54 + n.log2 - m.log2)) / n < 2 ^ 55 := by
    rw [Nat.div_lt_iff_lt_mul (by omega)]
    refine Nat.lt_of_lt_of_le h1 ?_
    rw [Nat.pow_add]
    exact Nat.mul_le_mul_left _ hle
  have h3 : qM m n < 2 ^ 56 := by
    unfold qM
    have : ∀ b : Bool, b.toNat ≤ 1 := by decide
    have := this ((m <<< (54 + n.log2 - m.log2)) % n != 0)
    omega
  have h4 : (qM m n).log2 ≤ 55 := by
    by_cases h0 : qM m n = 0
    · rw [h0]; simp
    · have := (Nat.log2_lt h0).2 h3
      omega
  unfold qP
  omega
/-- The rung of the quotient of two integers. -/
def qR (a b : Nat) : Nat := rgN double (qM (mgR double (iR a)) (mgR double (iR b))) (qP (mgR double (iR a)) (mgR double (iR b)) (plR double (iR a)) (plR double (iR b)))
theorem num_top {a : Nat} (h : a ≤ 2000000000) : plR double (iR a) + (mgR double (iR a)).log2 ≤ 32 := by
  have := top_le double (by omega) (iR_le h)
  have e1 : (double.fractionBits : Int) = 52 := rfl
  have e2 : double.leastPlace = -1074 := by decide
  omega
theorem qR_le {a b : Nat} (ha : a ≤ 2000000000) (h1 : 1 ≤ b) (hb : b ≤ 2000000000) : qR a b ≤ 1056 * double.binade := by
  have ht := num_top ha
  obtain ⟨hn, hd⟩ := den_top h1 hb
  have hq := quo_top (m := mgR double (iR a)) (n := mgR double (iR b)) (i := plR double (iR a)) (j := plR double (iR b)) (mgR_log double _) hn
  have e1 : (double.fractionBits : Int) = 52 := rfl
  have e2 : double.leastPlace = -1074 := by decide
  exact rgN_le double _ _ 1056 (by omega) (by omega)
/-- The word of the quotient of two integers. -/
def wB (n d : Int) : Nat := double.word (decide (n < 0)) (qR n.natAbs d.natAbs)
theorem quo_word {n d : Int} (h1 : -2000000000 ≤ n) (h2 : n ≤ 2000000000) (h3 : 1 ≤ d) (h4 : d ≤ 2000000000) :
    floatBits .quo .f64 (floatOfInt .f64 n) (floatOfInt .f64 d) = some (wB n d) := by
  have ha : n.natAbs ≤ 2000000000 := by omega
  have hb1 : 1 ≤ d.natAbs := by omega
  have hb : d.natAbs ≤ 2000000000 := by omega
  obtain ⟨hn0, _⟩ := den_top hb1 hb
  have hd0 : decide (d < 0) = false := by simp; omega
  show double.div (double.nearest (decide (n < 0)) n.natAbs 0) (double.nearest (decide (d < 0)) d.natAbs 0) = some (wB n d)
  unfold Format.div
  rw [nearest_rg, nearest_rg, show rgN double n.natAbs 0 = iR n.natAbs from rfl, show rgN double d.natAbs 0 = iR d.natAbs from rfl, read_word double _ (dbl_inf (iR_le ha) (by omega)), read_word double _ (dbl_inf (iR_le hb) (by omega))]
  unfold Datum.quotient
  dsimp only
  rw [if_neg hn0, hd0, Bool.xor_false]
  show some (double.nearest _ _ _) = _
  rw [nearest_rg]
  rfl
/-- The narrow word's rung, and the wide one's that comes of it. -/
def nR (R : Nat) : Nat := rgN single (mgR double R) (plR double R)
def bR (R : Nat) : Nat := rgN double (mgR single R) (plR single R)
def nB (n d : Int) : Nat := single.word (decide (n < 0)) (nR (qR n.natAbs d.natAbs))
def bB (n d : Int) : Nat := double.word (decide (n < 0)) (bR (nR (qR n.natAbs d.natAbs)))
theorem nR_le {R : Nat} (h : R ≤ 1056 * double.binade) : nR R ≤ 161 * single.binade := by
  have ht := top_le double (by omega) h
  have e1 : (double.fractionBits : Int) = 52 := rfl
  have e2 : double.leastPlace = -1074 := by decide
  have e3 : (single.fractionBits : Int) = 23 := rfl
  have e4 : single.leastPlace = -149 := by decide
  exact rgN_le single _ _ 161 (by omega) (by omega)
theorem bR_le {R : Nat} (h : R ≤ 161 * single.binade) : bR R ≤ 1058 * double.binade := by
  have ht := top_le single (by omega) h
  have e1 : (double.fractionBits : Int) = 52 := rfl
  have e2 : double.leastPlace = -1074 := by decide
  have e3 : (single.fractionBits : Int) = 23 := rfl
  have e4 : single.leastPlace = -149 := by decide
  exact rgN_le double _ _ 1058 (by omega) (by omega)
theorem conv_narrow {n d : Int} (h1 : -2000000000 ≤ n) (h2 : n ≤ 2000000000) (h3 : 1 ≤ d) (h4 : d ≤ 2000000000) {P : Program} (w : World) : (Conv.floatToFloat .f64 (wB n d) .f32).run P w = .ok (.float .f32 (nB n d)) w := by
  have hq := qR_le (a := n.natAbs) (b := d.natAbs) (by omega) (by omega) (by omega)
  have hr : FloatKind.f64.decode (wB n d) = .number (decide (n < 0)) (mgR double (qR n.natAbs d.natAbs)) (plR double (qR n.natAbs d.natAbs)) := read_word double _ (dbl_inf hq (by omega))
  have he : FloatKind.f32.encode (.number (decide (n < 0)) (mgR double (qR n.natAbs d.natAbs)) (plR double (qR n.natAbs d.natAbs))) = nB n d := nearest_rg single _ _ _
  have hi : (FloatKind.f32.decode (nB n d)).isInfinity = false := by
    show (single.read (single.word _ _)).isInfinity = false
    rw [read_word single _ (sgl_inf (nR_le hq) (by omega))]; rfl
  unfold Conv.floatToFloat
  rw [if_neg (by decide), hr]
  dsimp only
  rw [he, hi]
  rfl
theorem conv_wide {n d : Int} (h1 : -2000000000 ≤ n) (h2 : n ≤ 2000000000) (h3 : 1 ≤ d) (h4 : d ≤ 2000000000) {P : Program} (w : World) : (Conv.floatToFloat .f32 (nB n d) .f64).run P w = .ok (.float .f64 (bB n d)) w := by
  have hq := qR_le (a := n.natAbs) (b := d.natAbs) (by omega) (by omega) (by omega)
  have hn := nR_le hq
  have hr : FloatKind.f32.decode (nB n d) = .number (decide (n < 0)) (mgR single (nR (qR n.natAbs d.natAbs))) (plR single (nR (qR n.natAbs d.natAbs))) := read_word single _ (sgl_inf hn (by omega))
  have he : FloatKind.f64.encode (.number (decide (n < 0)) (mgR single (nR (qR n.natAbs d.natAbs))) (plR single (nR (qR n.natAbs d.natAbs)))) = bB n d := nearest_rg double _ _ _
  have hi : (FloatKind.f64.decode (bB n d)).isInfinity = false := by
    show (double.read (double.word _ _)).isInfinity = false
    rw [read_word double _ (dbl_inf (bR_le hn) (by omega))]; rfl
  unfold Conv.floatToFloat
  rw [if_neg (by decide), hr]
  dsimp only
  rw [he, hi]
  rfl
/-- Does a part come back? -/
def gdF (n d : Int) : Bool := FloatKind.f64.format.order (bB n d) (wB n d) == some .eq
theorem cmp_signed (s : Bool) (m n u v : Nat) : (compare (signed s m u) (signed s n v) = .eq) ↔ m <<< u = n <<< v := by
  rw [Std.compare_eq_iff_eq]
  cases s
  · show ((m <<< u : Nat) : Int) = ((n <<< v : Nat) : Int) ↔ _
    omega
  · show -((m <<< u : Nat) : Int) = -((n <<< v : Nat) : Int) ↔ _
    omega
theorem gdF_neg {n d : Int} (h1 : -2000000000 ≤ n) (h2 : n ≤ 2000000000) (h3 : 1 ≤ d) (h4 : d ≤ 2000000000) : gdF (-n) d = gdF n d := by
  have key : ∀ s : Bool, ∀ R R' : Nat, R < double.infRung → R' < double.infRung → ((double.order (double.word s R) (double.word s R') == some .eq) = (double.order (double.word false R) (double.word false R') == some .eq)) := by
    intro s R R' hR hR'
    unfold Format.order
    rw [read_word double s hR, read_word double s hR', read_word double false hR, read_word double false hR']
    unfold Datum.order
    dsimp only
    rw [Bool.eq_iff_iff]
    simp only [beq_iff_eq, Option.some.injEq]
    rw [cmp_signed, cmp_signed]
  have hq := qR_le (a := n.natAbs) (b := d.natAbs) (by omega) (by omega) (by omega)
  have hb := dbl_inf (bR_le (nR_le hq)) (by omega)
  have hw := dbl_inf hq (by omega)
  show (double.order (bB (-n) d) (wB (-n) d) == some .eq) = (double.order (bB n d) (wB n d) == some .eq)
  unfold bB wB
  rw [Int.natAbs_neg, key _ _ _ hb hw, key (decide (n < 0)) _ _ hb hw]
end Go.Proofs.Ytamdjgehmmogjaa
