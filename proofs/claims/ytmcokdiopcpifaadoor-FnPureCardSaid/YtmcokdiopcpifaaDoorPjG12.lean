/- Plain facts: what the functions over four numbers compute, place by place. No program is in sight. -/
import Derived.Test.YtmcokdiopcpifaaDoorPjG8
set_option maxRecDepth 100000
namespace Pol
/-- The flag after k places. -/
def fl (e : Bool) (f : Nat → Fr × Bool) : Nat → Bool
  | 0 => e
  | k + 1 => fl e f k || !(f k).2
def m4f (f : Nat → Fr × Bool) : M4 := ⟨(f 0).1, (f 1).1, (f 2).1, (f 3).1⟩
def m4l (e : Bool) (f : Nat → Fr × Bool) : M4 × Bool := gt m4z (fl e f 4) (m4f f)
theorem fl_false {e : Bool} {f : Nat → Fr × Bool} {n : Nat} : fl e f n = false ↔ e = false ∧ ∀ k, k < n → (f k).2 = true := by
  induction n with
  | zero => simp [fl]
  | succ n ih =>
    simp only [fl, Bool.or_eq_false_iff, Bool.not_eq_false', ih]
    constructor
    · rintro ⟨⟨h, h1⟩, h2⟩
      refine ⟨h, fun k hk => ?_⟩
      rcases Nat.lt_or_ge k n with h3 | h3
      · exact h1 k h3
      · obtain rfl : k = n := by omega
        exact h2
    · rintro ⟨h, h1⟩
      exact ⟨⟨h, fun k hk => h1 k (by omega)⟩, h1 n (by omega)⟩
theorem fl_bad {e : Bool} {f : Nat → Fr × Bool} {n k : Nat} (hk : k < n) (h : (f k).2 = false) : fl e f n = true := by
  cases hh : fl e f n
  · rw [(fl_false.1 hh).2 k hk] at h; cases h
  · rfl
theorem m4l_e {f : Nat → Fr × Bool} : m4l true f = (m4z, false) := by
  have : fl true f 4 = true := by
    cases hh : fl true f 4
    · exact absurd (fl_false.1 hh).1 (by simp)
    · rfl
  unfold m4l gt; rw [this]; rfl
theorem m4l_bad {e : Bool} {f : Nat → Fr × Bool} {k : Nat} (hk : k < 4) (h : (f k).2 = false) : m4l e f = (m4z, false) := by
  unfold m4l gt; rw [fl_bad hk h]; rfl
theorem m4l_good {f : Nat → Fr × Bool} (h : ∀ k, k < 4 → (f k).2 = true) : m4l false f = (m4f f, true) := by
  unfold m4l gt; rw [fl_false.2 ⟨rfl, h⟩]; rfl
theorem m4f_get (f : Nat → Fr × Bool) {k : Nat} (hk : k < 4) : (m4f f).get k = (f k).1 := by
  have : k = 0 ∨ k = 1 ∨ k = 2 ∨ k = 3 := by omega
  rcases this with rfl | rfl | rfl | rfl <;> rfl
def sAddF (a b : M4) (k : Nat) : Fr × Bool := fAdd (a.get k) (b.get k)
def sAdd (a b : M4) : M4 × Bool := m4l (false || !(all4 realB a && all4 realB b)) (sAddF a b)
def sSq (a : M4) : Fr × Bool :=
  gt fz (((((((false || !all4 realB a) || !(fTimes a.b a.b).2) || !(fTimes a.c a.c).2) || !(fAdd (fTimes a.b a.b).1 (fTimes a.c a.c).1).2) || !(fTimes a.d a.d).2) || !(fAdd (fAdd (fTimes a.b a.b).1 (fTimes a.c a.c).1).1 (fTimes a.d a.d).1).2))
    (fAdd (fAdd (fTimes a.b a.b).1 (fTimes a.c a.c).1).1 (fTimes a.d a.d).1).1
end Pol
namespace Go.Proofs.YtmcokdiopcpifaaDoor
open Go.RowKit Pol
theorem BoxAt.sm {b : Nat} {v : Bool} {W w1 : World} {N n : Nat} {g : Nat → Fr} (h : BoxAt W N g n) (hs : Sm b v W w1) (hN : N < W.heap.size) (hne : N ≠ b) : BoxAt w1 N g n := fun k hk => by
  obtain ⟨h0, h1, h2⟩ := h k hk
  exact ⟨(hs.atc N hN hne _).trans h0, (hs.atc N hN hne _).trans h1, (hs.atc N hN hne _).trans h2⟩
theorem far3 {w : World} {O i j k : Nat} {u v x : Value} {B o : Nat} (h : O ≠ B) : (((w.setCell ⟨O, i, none⟩ u).setCell ⟨O, j, none⟩ v).setCell ⟨O, k, none⟩ x).cell? ⟨B, o, none⟩ = w.cell? ⟨B, o, none⟩ := by
  rw [World.cell?_setCell_far _ _ _ _ h, World.cell?_setCell_far _ _ _ _ h, World.cell?_setCell_far _ _ _ _ h]
/-- Where the loop stands: k places are done. -/
structure LRel (W : World) (A B R P O : Nat) (ga gb : Nat → Fr) (nb : Nat) (e : Bool) (f : Nat → Fr × Bool) (k : Nat) (wr : World) : Prop where
  le : k ≤ 4
  below : Below W.heap.size W wr
  size : O + 1 ≤ wr.heap.size
  one : BoxAt wr A ga 4
  two : BoxAt wr B gb nb
  res : Room wr R 4
  room : Room wr O 4
  out : BoxAt wr O (fun i => (f i).1) k
  cell : wr.cell? ⟨P, 0, none⟩ = some (.bool (fl e f k))
  free : wr.frozen? ⟨P, 0, none⟩ = false
/-- The order of the boxes. -/
structure Ord (W : World) (A B R P O : Nat) : Prop where
  hA : A < P
  hB : B < P
  hR : R < P
  hP : P < O
  wP : W.heap.size ≤ P
  wO : W.heap.size ≤ O
  nA : A ≠ O
  nB : B ≠ O
  nR : R ≠ O
theorem LRel.step {W wr w1 : World} {A B R P O : Nat} {ga gb : Nat → Fr} {nb : Nat} {e : Bool} {f : Nat → Fr × Bool} {k : Nat} (h : LRel W A B R P O ga gb nb e f k wr) (o : Ord W A B R P O) (hk : k < 4) (hs : Sm P (fl e f (k + 1)) wr w1) : LRel W A B R P O ga gb nb e f (k + 1) (putF w1 O k (f k).1) := by
  have hz := h.size
  obtain ⟨a1, a2, a3, a4, a5, a6, a7, a8, a9⟩ := o
  refine ⟨hk, ?_, ?_, ?_, ?_, ?_, ?_, ?_, ?_, ?_⟩
  · have := hs.own h.below a5
    exact ((this.setCell a6 _).setCell a6 _).setCell a6 _
  · rw [putF_size]; exact Nat.le_trans hz hs.size
  · exact (h.one.sm hs (by omega) (by omega)).put_other (by omega) k _
  · exact (h.two.sm hs (by omega) (by omega)).put_other (by omega) k _
  · exact (h.res.sm hs (by omega) (by omega)).put _ _ _
  · exact (h.room.sm hs (by omega) (by omega)).put _ _ _
  · exact (h.out.sm hs (by omega) (by omega)).put (h.room.sm hs (by omega) (by omega)) hk
  · have : ∀ (a : World) (j : Nat) (v : Value), (a.setCell ⟨O, j, none⟩ v).cell? ⟨P, 0, none⟩ = a.cell? ⟨P, 0, none⟩ := fun a j v => World.cell?_setCell_far _ _ _ _ (by show O ≠ P; omega)
    show (putF w1 O k (f k).1).cell? _ = _
    unfold putF; rw [this, this, this]; exact hs.cell
  · show (putF w1 O k (f k).1).frozen? _ = _
    unfold putF; rw [World.frozen?_setCell, World.frozen?_setCell, World.frozen?_setCell]; exact hs.free
theorem LRel.drew {W wr : World} {A B R P O : Nat} {ga gb : Nat → Fr} {nb : Nat} {e : Bool} {f : Nat → Fr × Bool} {k : Nat} (h : LRel W A B R P O ga gb nb e f k wr) : LRel W A B R P O ga gb nb e f k wr.drew := ⟨h.le, h.below.drew, h.size, h.one, h.two, h.res, h.room, h.out, h.cell, h.free⟩
theorem LRel.drewN {W wr : World} {A B R P O : Nat} {ga gb : Nat → Fr} {nb : Nat} {e : Bool} {f : Nat → Fr × Bool} {k q : Nat} (h : LRel W A B R P O ga gb nb e f k wr) : LRel W A B R P O ga gb nb e f k (wr.drewN q) := ⟨h.le, below_drewN h.below q, h.size, h.one, h.two, h.res, h.room, h.out, h.cell, h.free⟩
theorem src4 (m : M4) (k : Nat) (hk : k < 4) : (#[.int .i64 m.a.re, .int .i64 m.a.im, .int .i64 m.a.den, .int .i64 m.b.re, .int .i64 m.b.im, .int .i64 m.b.den, .int .i64 m.c.re, .int .i64 m.c.im, .int .i64 m.c.den, .int .i64 m.d.re, .int .i64 m.d.im, .int .i64 m.d.den] : Array Value)[k * 3]? = some (.int .i64 (m.get k).re) ∧ (#[.int .i64 m.a.re, .int .i64 m.a.im, .int .i64 m.a.den, .int .i64 m.b.re, .int .i64 m.b.im, .int .i64 m.b.den, .int .i64 m.c.re, .int .i64 m.c.im, .int .i64 m.c.den, .int .i64 m.d.re, .int .i64 m.d.im, .int .i64 m.d.den] : Array Value)[k * 3 + 1]? = some (.int .i64 (m.get k).im) ∧ (#[.int .i64 m.a.re, .int .i64 m.a.im, .int .i64 m.a.den, .int .i64 m.b.re, .int .i64 m.b.im, .int .i64 m.b.den, .int .i64 m.c.re, .int .i64 m.c.im, .int .i64 m.c.den, .int .i64 m.d.re, .int .i64 m.d.im, .int .i64 m.d.den] : Array Value)[k * 3 + 2]? = some (.int .i64 (m.get k).den) := by
  have : k = 0 ∨ k = 1 ∨ k = 2 ∨ k = 3 := by omega
  rcases this with rfl | rfl | rfl | rfl <;> exact ⟨rfl, rfl, rfl⟩
theorem src1 (f : Fr) (k : Nat) (hk : k < 1) : (#[.int .i64 f.re, .int .i64 f.im, .int .i64 f.den] : Array Value)[k * 3]? = some (.int .i64 f.re) ∧ (#[.int .i64 f.re, .int .i64 f.im, .int .i64 f.den] : Array Value)[k * 3 + 1]? = some (.int .i64 f.im) ∧ (#[.int .i64 f.re, .int .i64 f.im, .int .i64 f.den] : Array Value)[k * 3 + 2]? = some (.int .i64 f.den) := by
  obtain rfl : k = 0 := by omega
  exact ⟨rfl, rfl, rfl⟩
end Go.Proofs.YtmcokdiopcpifaaDoor
