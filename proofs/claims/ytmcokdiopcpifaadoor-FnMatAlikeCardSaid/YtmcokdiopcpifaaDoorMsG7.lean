/- Contracts of the reference: determinants. -/
import Derived.Test.YtmcokdiopcpifaaDoorMsG3
import Derived.Test.YtmcokdiopcpifaaDoorMsG1
import Derived.Test.YtmcokdiopcpifaaDoorMsV
set_option maxRecDepth 100000
namespace Go.Proofs.YtmcokdiopcpifaaDoor
open Go.RowKit Pol
theorem FrOut.is {g g' : Fr × Bool} {w w' : World} (h : g = g') (hb : Below w.heap.size w w') : FrOut g w (.returned (.tuple #[.agg #[.int .i64 g'.1.re, .int .i64 g'.1.im, .int .i64 g'.1.den], .bool g'.2])) w' := ⟨g'.1, g'.2, h, rfl, hb⟩
end Go.Proofs.YtmcokdiopcpifaaDoor
namespace Go.Proofs.YtmcokdiopcpifaaDoor
open Go.RowKit Pol
/-- Is it a direction? -/
def dirB (p q : Int) : Bool := wi p (-100) 100 && wi q (-100) 100 && !(decide (p = 0) && decide (q = 0))
def dC (p q : Int) : Fr := (low (p * p - q * q) 0 (p * p + q * q)).1
def dS (p q : Int) : Fr := (low (2 * p * q) 0 (p * p + q * q)).1
theorem sqn (a : Int) : 0 ≤ a * a := by
  rcases Int.le_total 0 a with h | h
  · exact Int.mul_nonneg h h
  · have := Int.mul_nonneg (a := -a) (b := -a) (by omega) (by omega)
    rwa [Int.neg_mul_neg] at this
theorem sq_bd {a : Int} (h1 : -100 ≤ a) (h2 : a ≤ 100) : 0 ≤ a * a ∧ a * a ≤ 10000 := by
  have h : (a * a).natAbs ≤ 100 * 100 := by rw [Int.natAbs_mul]; exact Nat.mul_le_mul (by omega) (by omega)
  have := sqn a
  omega
theorem pr_bd {a b : Int} (h1 : -100 ≤ a) (h2 : a ≤ 100) (h3 : -100 ≤ b) (h4 : b ≤ 100) : -20000 ≤ 2 * a * b ∧ 2 * a * b ≤ 20000 := by
  have h : (a * b).natAbs ≤ 100 * 100 := by rw [Int.natAbs_mul]; exact Nat.mul_le_mul (by omega) (by omega)
  rw [Int.mul_assoc]; omega
theorem dir_bd {p q : Int} (h : dirB p q = true) : (-100 ≤ p ∧ p ≤ 100) ∧ (-100 ≤ q ∧ q ≤ 100) ∧ 1 ≤ p * p + q * q := by
  unfold dirB wi at h
  simp only [Bool.and_eq_true, decide_eq_true_eq, Bool.not_eq_true', Bool.and_eq_false_iff, decide_eq_false_iff_not] at h
  obtain ⟨⟨⟨a, b⟩, c, d⟩, e⟩ := h
  refine ⟨⟨a, b⟩, ⟨c, d⟩, ?_⟩
  have h1 := sqn p
  have h2 := sqn q
  rcases e with e | e
  · have : p * p ≠ 0 := fun h => e (by rcases Int.mul_eq_zero.1 h with h | h <;> exact h)
    omega
  · have : q * q ≠ 0 := fun h => e (by rcases Int.mul_eq_zero.1 h with h | h <;> exact h)
    omega
set_option maxHeartbeats 2000000 in
/-- Where the parts are small. -/
theorem fracMake_any (re im den : Int) (r0 : -1000000000000000000 ≤ re) (r1 : re ≤ 1000000000000000000) (i0 : -1000000000000000000 ≤ im) (i1 : im ≤ 1000000000000000000) (d0 : 1 ≤ den) (d1 : den ≤ 1000000000000000000) (w : World) :
    Calls Tryd.prog 119 #[.int .i64 re, .int .i64 im, .int .i64 den] w (FrOut (low re im den) w) := by
  have h1 : wi den 1 1000000000000000000 = true := by unfold wi; simp; omega
  have h2 : wi re (-1000000000000000000) 1000000000000000000 = true := by unfold wi; simp; omega
  have h3 : wi im (-1000000000000000000) 1000000000000000000 = true := by unfold wi; simp; omega
  have H1 := Lib.hid h1; have H2 := Lib.hid h2; have H3 := Lib.hid h3; clear h1 h2 h3
  go_enter Tryd.func119, Tryd.ntmps119
  go_wp2_with (go_at_call 61; (first | (with_reducible refine (l6In_b H1.out _).mono ?_) | (with_reducible refine (l6In_b H2.out _).mono ?_) | (with_reducible refine (l6In_b H3.out _).mono ?_)); rintro e w' ⟨rfl, rfl⟩)
  refine (l2Low_any re im den (by omega) (by omega) (by omega) (by omega) d0 (by omega) _).mono ?_
  rintro e w1 ho
  obtain ⟨rfl, hb⟩ := ho.fn
  have kc := fun o => hb.cell (p := ⟨w.heap.size, o, none⟩) (by show w.heap.size < _; simp)
  have kf := fun o => hb.frozen (p := ⟨w.heap.size, o, none⟩) (by show w.heap.size < _; simp)
  have HB := Lib.hid (show Below w.heap.size w w1 from by (repeat' first | exact Below.refl _ _ | apply bl_alloc | apply bl_drewN | apply bl_drew | refine bl_trans ?_ (by assumption) | refine bl_set ?_ (by first | omega | (simp <;> omega)) _))
  clear ho hb
  go_wp2
  refine bodyPost_ret (v := .tuple #[.agg #[.int .i64 (low re im den).1.re, .int .i64 (low re im den).1.im, .int .i64 (low re im den).1.den], .bool (low re im den).2]) (by simp [results, Tryd.results119, go_sem, *]) rfl (FrOut.is rfl ?_)
  (repeat' first | (with_reducible exact HB.out) | with_reducible refine setCells_below _ _ _ ?_ (by first | omega | (simp <;> omega)) | with_reducible refine Below.setCell ?_ (by show _ ≤ _; first | omega | (simp <;> omega) | simp) _ | with_reducible refine Below.alloc ?_ (by first | omega | (simp <;> omega)) _ | with_reducible apply Below.drew)
end Go.Proofs.YtmcokdiopcpifaaDoor
namespace Pol
/-- The flag after k places. -/
def fl (e : Bool) (f : Nat → Fr × Bool) : Nat → Bool
  | 0 => e
  | k + 1 => fl e f k || !(f k).2
def m4f (f : Nat → Fr × Bool) : M4 := ⟨(f 0).1, (f 1).1, (f 2).1, (f 3).1⟩
def m4l (e : Bool) (f : Nat → Fr × Bool) : M4 × Bool := gt m4z (fl e f 4) (m4f f)
theorem fl_false {e : Bool} {f : Nat → Fr × Bool} {n : Nat} : fl e f n = false ↔ e = false ∧ ∀ k, k < n → (f k).2 = true := by
  induction n with
  | zero => simp [fl]
  | succ n ih =>
    simp only [fl, Bool.or_eq_false_iff, Bool.not_eq_false', ih]
    constructor
    · rintro ⟨⟨h, h1⟩, h2⟩
      refine ⟨h, fun k hk => ?_⟩
      rcases Nat.lt_or_ge k n with h3 | h3
      · exact h1 k h3
      · obtain rfl : k = n := by omega
        exact h2
    · rintro ⟨h, h1⟩
      exact ⟨⟨h, fun k hk => h1 k (by omega)⟩, h1 n (by omega)⟩
theorem fl_bad {e : Bool} {f : Nat → Fr × Bool} {n k : Nat} (hk : k < n) (h : (f k).2 = false) : fl e f n = true := by
  cases hh : fl e f n
  · rw [(fl_false.1 hh).2 k hk] at h; cases h
  · rfl
theorem m4l_e {f : Nat → Fr × Bool} : m4l true f = (m4z, false) := by
  have : fl true f 4 = true := by
    cases hh : fl true f 4
    · exact absurd (fl_false.1 hh).1 (by simp)
    · rfl
  unfold m4l gt; rw [this]; rfl
theorem m4l_bad {e : Bool} {f : Nat → Fr × Bool} {k : Nat} (hk : k < 4) (h : (f k).2 = false) : m4l e f = (m4z, false) := by
  unfold m4l gt; rw [fl_bad hk h]; rfl
theorem m4l_good {f : Nat → Fr × Bool} (h : ∀ k, k < 4 → (f k).2 = true) : m4l false f = (m4f f, true) := by
  unfold m4l gt; rw [fl_false.2 ⟨rfl, h⟩]; rfl
theorem m4f_get (f : Nat → Fr × Bool) {k : Nat} (hk : k < 4) : (m4f f).get k = (f k).1 := by
  have : k = 0 ∨ k = 1 ∨ k = 2 ∨ k = 3 := by omega
  rcases this with rfl | rfl | rfl | rfl <;> rfl
def sTimF (a : M4) (c : Fr) (k : Nat) : Fr × Bool := fTimes (a.get k) c
def mSca (a : M4) (c : Fr) : M4 × Bool := m4l (false || !(all4 vld a && vld c)) (sTimF a c)
end Pol
