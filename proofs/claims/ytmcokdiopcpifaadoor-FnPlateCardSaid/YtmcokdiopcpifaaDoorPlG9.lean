/- Contracts of the reference: determinants. -/
import Derived.Test.YtmcokdiopcpifaaDoorPlG4
import Derived.Test.YtmcokdiopcpifaaDoorPlV
import Derived.Test.YtmcokdiopcpifaaDoorPlT
import Derived.Test.YtmcokdiopcpifaaDoorPlN
set_option maxRecDepth 100000
namespace Go.Proofs.YtmcokdiopcpifaaDoor
open Go.RowKit Pol
theorem FrOut.is {g g' : Fr × Bool} {w w' : World} (h : g = g') (hb : Below w.heap.size w w') : FrOut g w (.returned (.tuple #[.agg #[.int .i64 g'.1.re, .int .i64 g'.1.im, .int .i64 g'.1.den], .bool g'.2])) w' := ⟨g'.1, g'.2, h, rfl, hb⟩
end Go.Proofs.YtmcokdiopcpifaaDoor
namespace Go.Proofs.YtmcokdiopcpifaaDoor
open Go.RowKit Pol
/-- Is it a direction? -/
def dirB (p q : Int) : Bool := wi p (-100) 100 && wi q (-100) 100 && !(decide (p = 0) && decide (q = 0))
def dC (p q : Int) : Fr := (low (p * p - q * q) 0 (p * p + q * q)).1
def dS (p q : Int) : Fr := (low (2 * p * q) 0 (p * p + q * q)).1
theorem sqn (a : Int) : 0 ≤ a * a := by
  rcases Int.le_total 0 a with h | h
  · exact Int.mul_nonneg h h
  · have := Int.mul_nonneg (a := -a) (b := -a) (by omega) (by omega)
    rwa [Int.neg_mul_neg] at this
theorem sq_bd {a : Int} (h1 : -100 ≤ a) (h2 : a ≤ 100) : 0 ≤ a * a ∧ a * a ≤ 10000 := by
  have h : (a * a).natAbs ≤ 100 * 100 := by rw [Int.natAbs_mul]; exact Nat.mul_le_mul (by omega) (by omega)
  have := sqn a
  omega
theorem pr_bd {a b : Int} (h1 : -100 ≤ a) (h2 : a ≤ 100) (h3 : -100 ≤ b) (h4 : b ≤ 100) : -20000 ≤ 2 * a * b ∧ 2 * a * b ≤ 20000 := by
  have h : (a * b).natAbs ≤ 100 * 100 := by rw [Int.natAbs_mul]; exact Nat.mul_le_mul (by omega) (by omega)
  rw [Int.mul_assoc]; omega
theorem dir_bd {p q : Int} (h : dirB p q = true) : (-100 ≤ p ∧ p ≤ 100) ∧ (-100 ≤ q ∧ q ≤ 100) ∧ 1 ≤ p * p + q * q := by
  unfold dirB wi at h
  simp only [Bool.and_eq_true, decide_eq_true_eq, Bool.not_eq_true', Bool.and_eq_false_iff, decide_eq_false_iff_not] at h
  obtain ⟨⟨⟨a, b⟩, c, d⟩, e⟩ := h
  refine ⟨⟨a, b⟩, ⟨c, d⟩, ?_⟩
  have h1 := sqn p
  have h2 := sqn q
  rcases e with e | e
  · have : p * p ≠ 0 := fun h => e (by rcases Int.mul_eq_zero.1 h with h | h <;> exact h)
    omega
  · have : q * q ≠ 0 := fun h => e (by rcases Int.mul_eq_zero.1 h with h | h <;> exact h)
    omega
set_option maxHeartbeats 2000000 in
/-- Where the parts are small. -/
theorem fracMake_any (re im den : Int) (r0 : -1000000000000000000 ≤ re) (r1 : re ≤ 1000000000000000000) (i0 : -1000000000000000000 ≤ im) (i1 : im ≤ 1000000000000000000) (d0 : 1 ≤ den) (d1 : den ≤ 1000000000000000000) (w : World) :
    Calls Tryd.prog 119 #[.int .i64 re, .int .i64 im, .int .i64 den] w (FrOut (low re im den) w) := by
  have h1 : wi den 1 1000000000000000000 = true := by unfold wi; simp; omega
  have h2 : wi re (-1000000000000000000) 1000000000000000000 = true := by unfold wi; simp; omega
  have h3 : wi im (-1000000000000000000) 1000000000000000000 = true := by unfold wi; simp; omega
  have H1 := Lib.hid h1; have H2 := Lib.hid h2; have H3 := Lib.hid h3; clear h1 h2 h3
  go_enter Tryd.func119, Tryd.ntmps119
  go_wp2_with (go_at_call 61; (first | (with_reducible refine (l6In_b H1.out _).mono ?_) | (with_reducible refine (l6In_b H2.out _).mono ?_) | (with_reducible refine (l6In_b H3.out _).mono ?_)); rintro e w' ⟨rfl, rfl⟩)
  refine (l2Low_any re im den (by omega) (by omega) (by omega) (by omega) d0 (by omega) _).mono ?_
  rintro e w1 ho
  obtain ⟨rfl, hb⟩ := ho.fn
  have kc := fun o => hb.cell (p := ⟨w.heap.size, o, none⟩) (by show w.heap.size < _; simp)
  have kf := fun o => hb.frozen (p := ⟨w.heap.size, o, none⟩) (by show w.heap.size < _; simp)
  have HB := Lib.hid (show Below w.heap.size w w1 from by (repeat' first | exact Below.refl _ _ | apply bl_alloc | apply bl_drewN | apply bl_drew | refine bl_trans ?_ (by assumption) | refine bl_set ?_ (by first | omega | (simp <;> omega)) _))
  clear ho hb
  go_wp2
  refine bodyPost_ret (v := .tuple #[.agg #[.int .i64 (low re im den).1.re, .int .i64 (low re im den).1.im, .int .i64 (low re im den).1.den], .bool (low re im den).2]) (by simp [results, Tryd.results119, go_sem, *]) rfl (FrOut.is rfl ?_)
  (repeat' first | (with_reducible exact HB.out) | with_reducible refine setCells_below _ _ _ ?_ (by first | omega | (simp <;> omega)) | with_reducible refine Below.setCell ?_ (by show _ ≤ _; first | omega | (simp <;> omega) | simp) _ | with_reducible refine Below.alloc ?_ (by first | omega | (simp <;> omega)) _ | with_reducible apply Below.drew)
end Go.Proofs.YtmcokdiopcpifaaDoor
namespace Pol
/-- The flag after k places. -/
def fl (e : Bool) (f : Nat → Fr × Bool) : Nat → Bool
  | 0 => e
  | k + 1 => fl e f k || !(f k).2
end Pol
namespace Go.Proofs.YtmcokdiopcpifaaDoor
open Go.RowKit Pol
theorem BoxAt.sm {b : Nat} {v : Bool} {W w1 : World} {N n : Nat} {g : Nat → Fr} (h : BoxAt W N g n) (hs : Sm b v W w1) (hN : N < W.heap.size) (hne : N ≠ b) : BoxAt w1 N g n := fun k hk => by
  obtain ⟨h0, h1, h2⟩ := h k hk
  exact ⟨(hs.atc N hN hne _).trans h0, (hs.atc N hN hne _).trans h1, (hs.atc N hN hne _).trans h2⟩
theorem far3 {w : World} {O i j k : Nat} {u v x : Value} {B o : Nat} (h : O ≠ B) : (((w.setCell ⟨O, i, none⟩ u).setCell ⟨O, j, none⟩ v).setCell ⟨O, k, none⟩ x).cell? ⟨B, o, none⟩ = w.cell? ⟨B, o, none⟩ := by
  rw [World.cell?_setCell_far _ _ _ _ h, World.cell?_setCell_far _ _ _ _ h, World.cell?_setCell_far _ _ _ _ h]
/-- Where the loop stands: k places are done. -/
structure LRel (W : World) (A B R P O : Nat) (ga gb : Nat → Fr) (nb : Nat) (e : Bool) (f : Nat → Fr × Bool) (k : Nat) (wr : World) : Prop where
  le : k ≤ 4
  below : Below W.heap.size W wr
  size : O + 1 ≤ wr.heap.size
  one : BoxAt wr A ga 4
  two : BoxAt wr B gb nb
  res : Room wr R 4
  room : Room wr O 4
  out : BoxAt wr O (fun i => (f i).1) k
  cell : wr.cell? ⟨P, 0, none⟩ = some (.bool (fl e f k))
  free : wr.frozen? ⟨P, 0, none⟩ = false
/-- The order of the boxes. -/
structure Ord (W : World) (A B R P O : Nat) : Prop where
  hA : A < P
  hB : B < P
  hR : R < P
  hP : P < O
  wP : W.heap.size ≤ P
  wO : W.heap.size ≤ O
  nA : A ≠ O
  nB : B ≠ O
  nR : R ≠ O
theorem LRel.drew {W wr : World} {A B R P O : Nat} {ga gb : Nat → Fr} {nb : Nat} {e : Bool} {f : Nat → Fr × Bool} {k : Nat} (h : LRel W A B R P O ga gb nb e f k wr) : LRel W A B R P O ga gb nb e f k wr.drew := ⟨h.le, h.below.drew, h.size, h.one, h.two, h.res, h.room, h.out, h.cell, h.free⟩
theorem LRel.drewN {W wr : World} {A B R P O : Nat} {ga gb : Nat → Fr} {nb : Nat} {e : Bool} {f : Nat → Fr × Bool} {k q : Nat} (h : LRel W A B R P O ga gb nb e f k wr) : LRel W A B R P O ga gb nb e f k (wr.drewN q) := ⟨h.le, below_drewN h.below q, h.size, h.one, h.two, h.res, h.room, h.out, h.cell, h.free⟩
theorem src4 (m : M4) (k : Nat) (hk : k < 4) : (#[.int .i64 m.a.re, .int .i64 m.a.im, .int .i64 m.a.den, .int .i64 m.b.re, .int .i64 m.b.im, .int .i64 m.b.den, .int .i64 m.c.re, .int .i64 m.c.im, .int .i64 m.c.den, .int .i64 m.d.re, .int .i64 m.d.im, .int .i64 m.d.den] : Array Value)[k * 3]? = some (.int .i64 (m.get k).re) ∧ (#[.int .i64 m.a.re, .int .i64 m.a.im, .int .i64 m.a.den, .int .i64 m.b.re, .int .i64 m.b.im, .int .i64 m.b.den, .int .i64 m.c.re, .int .i64 m.c.im, .int .i64 m.c.den, .int .i64 m.d.re, .int .i64 m.d.im, .int .i64 m.d.den] : Array Value)[k * 3 + 1]? = some (.int .i64 (m.get k).im) ∧ (#[.int .i64 m.a.re, .int .i64 m.a.im, .int .i64 m.a.den, .int .i64 m.b.re, .int .i64 m.b.im, .int .i64 m.b.den, .int .i64 m.c.re, .int .i64 m.c.im, .int .i64 m.c.den, .int .i64 m.d.re, .int .i64 m.d.im, .int .i64 m.d.den] : Array Value)[k * 3 + 2]? = some (.int .i64 (m.get k).den) := by
  have : k = 0 ∨ k = 1 ∨ k = 2 ∨ k = 3 := by omega
  rcases this with rfl | rfl | rfl | rfl <;> exact ⟨rfl, rfl, rfl⟩
end Go.Proofs.YtmcokdiopcpifaaDoor
