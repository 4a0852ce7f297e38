/- Comparing two structs that hold an array of fractions, whatever these are. -/
import Derived.Test.YtmcokdiopcpifaaDoorEQ
import Derived.Test.YtmcokdiopcpifaaDoorQ
set_option maxRecDepth 100000
namespace Go.Proofs.YtmcokdiopcpifaaDoor
open Go.RowKit Pol

def frB (a b : Fr) : Bool := a.re == b.re && (a.im == b.im && a.den == b.den)
theorem frB_iff {a b : Fr} : frB a b = true ↔ a = b := by
  obtain ⟨a1, a2, a3⟩ := a
  obtain ⟨b1, b2, b3⟩ := b
  simp [frB]
def m4B (m n : M4) : Bool := frB m.a n.a && (frB m.b n.b && (frB m.c n.c && frB m.d n.d))
theorem m4B_iff {m n : M4} : m4B m n = true ↔ m = n := by
  obtain ⟨a1, a2, a3, a4⟩ := m
  obtain ⟨b1, b2, b3, b4⟩ := n
  simp [m4B, frB_iff]
set_option maxRecDepth 100000 in
theorem eqFr_run (a b : Fr) (d : Nat) (w : World) : (Op.equalIn (d + 2) 23 (.agg #[.int .i64 a.re, .int .i64 a.im, .int .i64 a.den]) (.agg #[.int .i64 b.re, .int .i64 b.im, .int .i64 b.den])).run Tryd.prog w = .ok (frB a b) w := by
  rw [run_equalIn_agg w (d + 1) 23 _ _ (by kernel_rfl) (by kernel_rfl)]
  by_cases h1 : a.re = b.re <;> by_cases h2 : a.im = b.im <;> by_cases h3 : a.den = b.den <;> simp [go_sem, Tryd.underlying23, frB, h1, h2, h3]
set_option maxRecDepth 100000 in
theorem eqPl_step (d : Nat) (xs ys : Array Value) (i : Nat) (is : List Nat) (a b : Fr) (w : World) (hx : (part 23 xs (i * 3)).run Tryd.prog w = .ok (.agg #[.int .i64 a.re, .int .i64 a.im, .int .i64 a.den]) w) (hy : (part 23 ys (i * 3)).run Tryd.prog w = .ok (.agg #[.int .i64 b.re, .int .i64 b.im, .int .i64 b.den]) w) :
    (eqPlaces (d + 2) 23 3 xs ys (i :: is)).run Tryd.prog w = if frB a b = true then (eqPlaces (d + 2) 23 3 xs ys is).run Tryd.prog w else .ok false w := by
  simp only [eqPlaces, Sem.run_bind, hx, hy, Result.andThen_ok, eqFr_run a b d w, Sem.run_ite]
  cases frB a b <;> simp
set_option maxRecDepth 100000 in
theorem eqArr_run (m n : M4) (d : Nat) (w : World) : (Op.equalIn (d + 3) 39 (.agg #[.int .i64 m.a.re, .int .i64 m.a.im, .int .i64 m.a.den, .int .i64 m.b.re, .int .i64 m.b.im, .int .i64 m.b.den, .int .i64 m.c.re, .int .i64 m.c.im, .int .i64 m.c.den, .int .i64 m.d.re, .int .i64 m.d.im, .int .i64 m.d.den]) (.agg #[.int .i64 n.a.re, .int .i64 n.a.im, .int .i64 n.a.den, .int .i64 n.b.re, .int .i64 n.b.im, .int .i64 n.b.den, .int .i64 n.c.re, .int .i64 n.c.im, .int .i64 n.c.den, .int .i64 n.d.re, .int .i64 n.d.im, .int .i64 n.d.den])).run Tryd.prog w = .ok (m4B m n) w := by
  rw [run_equalIn_array w (d + 2) 39 23 4 3 _ _ Tryd.underlying39 (by rfl)]
  show (eqPlaces (d + 2) 23 3 _ _ [0, 1, 2, 3]).run Tryd.prog w = _
  rw [eqPl_step d _ _ 0 _ m.a n.a w (by simp [go_sem]) (by simp [go_sem]), eqPl_step d _ _ 1 _ m.b n.b w (by simp [go_sem]) (by simp [go_sem]), eqPl_step d _ _ 2 _ m.c n.c w (by simp [go_sem]) (by simp [go_sem]), eqPl_step d _ _ 3 _ m.d n.d w (by simp [go_sem]) (by simp [go_sem])]
  unfold m4B
  cases frB m.a n.a <;> cases frB m.b n.b <;> cases frB m.c n.c <;> cases frB m.d n.d <;> simp [eqPlaces]
set_option maxRecDepth 100000 in
theorem eqMatB_run (m n : M4) (d : Nat) (w : World) : (Op.equalIn (d + 5) 41 (.agg #[.int .i64 m.a.re, .int .i64 m.a.im, .int .i64 m.a.den, .int .i64 m.b.re, .int .i64 m.b.im, .int .i64 m.b.den, .int .i64 m.c.re, .int .i64 m.c.im, .int .i64 m.c.den, .int .i64 m.d.re, .int .i64 m.d.im, .int .i64 m.d.den]) (.agg #[.int .i64 n.a.re, .int .i64 n.a.im, .int .i64 n.a.den, .int .i64 n.b.re, .int .i64 n.b.im, .int .i64 n.b.den, .int .i64 n.c.re, .int .i64 n.c.im, .int .i64 n.c.den, .int .i64 n.d.re, .int .i64 n.d.im, .int .i64 n.d.den])).run Tryd.prog w = .ok (m4B m n) w := by
  rw [run_equalIn_agg w (d + 4) 41 _ _ (by kernel_rfl) (by kernel_rfl)]
  simp [go_sem, Tryd.underlying41]
  rw [eqArr_run m n (d + 1) w]
  cases m4B m n <;> simp
set_option maxRecDepth 100000 in
theorem eqMat_run (m : M4) (w : World) : (Op.equalIn 10000 41 (.agg #[.int .i64 m.a.re, .int .i64 m.a.im, .int .i64 m.a.den, .int .i64 m.b.re, .int .i64 m.b.im, .int .i64 m.b.den, .int .i64 m.c.re, .int .i64 m.c.im, .int .i64 m.c.den, .int .i64 m.d.re, .int .i64 m.d.im, .int .i64 m.d.den]) (.agg #[.int .i64 m.a.re, .int .i64 m.a.im, .int .i64 m.a.den, .int .i64 m.b.re, .int .i64 m.b.im, .int .i64 m.b.den, .int .i64 m.c.re, .int .i64 m.c.im, .int .i64 m.c.den, .int .i64 m.d.re, .int .i64 m.d.im, .int .i64 m.d.den])).run Tryd.prog w = .ok true w := by
  rw [eqMatB_run m m 9995 w, m4B_iff.2 rfl]
set_option maxRecDepth 100000 in
theorem eqStokesB_run (m n : M4) (d : Nat) (w : World) : (Op.equalIn (d + 5) 51 (.agg #[.int .i64 m.a.re, .int .i64 m.a.im, .int .i64 m.a.den, .int .i64 m.b.re, .int .i64 m.b.im, .int .i64 m.b.den, .int .i64 m.c.re, .int .i64 m.c.im, .int .i64 m.c.den, .int .i64 m.d.re, .int .i64 m.d.im, .int .i64 m.d.den]) (.agg #[.int .i64 n.a.re, .int .i64 n.a.im, .int .i64 n.a.den, .int .i64 n.b.re, .int .i64 n.b.im, .int .i64 n.b.den, .int .i64 n.c.re, .int .i64 n.c.im, .int .i64 n.c.den, .int .i64 n.d.re, .int .i64 n.d.im, .int .i64 n.d.den])).run Tryd.prog w = .ok (m4B m n) w := by
  rw [run_equalIn_agg w (d + 4) 51 _ _ (by kernel_rfl) (by kernel_rfl)]
  simp [go_sem, Tryd.underlying51]
  rw [eqArr_run m n (d + 1) w]
  cases m4B m n <;> simp
end Go.Proofs.YtmcokdiopcpifaaDoor
