/- How the arguments of a law read: fractions, vectors, matrices, tables by value are their integers. -/
import Derived.Test.YtmcokdiopcpifaaDoorRows
import Derived.Test.YtmcokdiopcpifaaDoorPlain
import Derived.WalkKit
import Derived.ProofKit
import Derived.OpenShut
set_option maxRecDepth 100000
namespace Go.Proofs.YtmcokdiopcpifaaDoor
open Go.ChangeShapes Go.WideShapes Go.ChangeAt Go.RowKit Pol

theorem Tryd.own : ownKnob Tryd.prog.godebug = none := by kernel_rfl
theorem Tryd.laidOut : laidOutB Tryd.prog = true := by kernel_rfl

/-- The number in place i. -/
def numAt (cs : Array Value) (i : Nat) : Int := match cs[i]? with | some (.int _ z) => z | _ => 0

theorem open_cells {P : Program} {w : World} {r : Reach} {base t ti : TypeId} {v : Value} {n : Nat} {d : TypeDesc} (hd : P.underlying t = some d) (hr : (match d with | .struct _ | .array _ _ => true | _ => false) = true)
    (hi : P.underlying ti = some (.int .i64)) (hc : P.cellsOf t = n) (ht : P.cellTypes P.depth t = some (List.replicate n ti)) (h : Value.okWide P w r base t v) :
    ∃ cs : Array Value, v = .agg cs ∧ cs.size = n ∧ ∀ i, i < n → cs[i]? = some (.int .i64 (numAt cs i)) := by
  unfold Value.okWide at h
  rw [hd] at h
  have h' : ∃ cs, v = .agg cs ∧ cs.size = P.cellsOf t ∧ Row.okWide P w r base t cs := by
    cases d <;> first | exact h | cases hr
  obtain ⟨cs, rfl, hs, ts, hts, _, hall⟩ := h'
  refine ⟨cs, rfl, by rw [hs, hc], fun i hi' => ?_⟩
  have hlt : i < cs.size := by omega
  have hg : cs[i]? = some cs[i] := Array.getElem?_eq_getElem hlt
  obtain ⟨u, hu, hok⟩ := hall i _ hg
  rw [hts] at ht
  obtain rfl := Option.some.inj ht
  have : u = ti := by
    have := List.mem_of_getElem? hu
    exact (List.mem_replicate.1 this).2
  subst this
  unfold Cell.okWide at hok
  rw [hi] at hok
  unfold numAt
  rw [hg]
  generalize cs[i] = x at hok
  unfold Cell.ok at hok
  rw [hi] at hok
  cases x <;> first | (obtain ⟨rfl, _⟩ := hok; rfl) | (exact absurd hok (by simp))

theorem arr_of {cs : Array Value} {l : List Value} (hs : cs.size = l.length) (h : ∀ i, i < l.length → cs[i]? = l[i]?) : cs = l.toArray := by
  apply Array.ext_getElem?
  intro i
  by_cases hi : i < l.length
  · rw [h i hi]; simp
  · rw [Array.getElem?_eq_none (by omega)]; simp; omega
def frAt (cs : Array Value) (k : Nat) : Fr := ⟨numAt cs k, numAt cs (k + 1), numAt cs (k + 2)⟩
def m4At (cs : Array Value) (k : Nat) : M4 := ⟨frAt cs k, frAt cs (k + 3), frAt cs (k + 6), frAt cs (k + 9)⟩
theorem open_fr {w : World} {r : Reach} {base : Nat} {v : Value} (h : Value.okWide Tryd.prog w r base 31 v) : ∃ m : Fr, v = .agg #[.int .i64 m.re, .int .i64 m.im, .int .i64 m.den] := by
  obtain ⟨cs, rfl, hs, hall⟩ := open_cells (n := 3) Tryd.underlying31 rfl Tryd.underlying3 (by kernel_rfl) (by kernel_rfl) h
  obtain ⟨M, hM⟩ : ∃ M : Fr, M = frAt cs 0 := ⟨_, rfl⟩
  refine ⟨M, congrArg Value.agg ?_⟩
  refine arr_of (l := [.int .i64 M.re, .int .i64 M.im, .int .i64 M.den]) hs (fun i hi => ?_)
  rw [hall i hi]
  have : i = 0 ∨ i = 1 ∨ i = 2 := by simp at hi; omega
  subst hM
  rcases this with rfl | rfl | rfl <;> rfl
theorem open_m4 {w : World} {r : Reach} {base : Nat} {v : Value} (h : Value.okWide Tryd.prog w r base 37 v) : ∃ m : M4, v = .agg #[.int .i64 m.a.re, .int .i64 m.a.im, .int .i64 m.a.den, .int .i64 m.b.re, .int .i64 m.b.im, .int .i64 m.b.den, .int .i64 m.c.re, .int .i64 m.c.im, .int .i64 m.c.den, .int .i64 m.d.re, .int .i64 m.d.im, .int .i64 m.d.den] := by
  obtain ⟨cs, rfl, hs, hall⟩ := open_cells (n := 12) Tryd.underlying37 rfl Tryd.underlying3 (by kernel_rfl) (by kernel_rfl) h
  obtain ⟨M, hM⟩ : ∃ M : M4, M = m4At cs 0 := ⟨_, rfl⟩
  refine ⟨M, congrArg Value.agg ?_⟩
  refine arr_of (l := [.int .i64 M.a.re, .int .i64 M.a.im, .int .i64 M.a.den, .int .i64 M.b.re, .int .i64 M.b.im, .int .i64 M.b.den, .int .i64 M.c.re, .int .i64 M.c.im, .int .i64 M.c.den, .int .i64 M.d.re, .int .i64 M.d.im, .int .i64 M.d.den]) hs (fun i hi => ?_)
  rw [hall i hi]
  have : i = 0 ∨ i = 1 ∨ i = 2 ∨ i = 3 ∨ i = 4 ∨ i = 5 ∨ i = 6 ∨ i = 7 ∨ i = 8 ∨ i = 9 ∨ i = 10 ∨ i = 11 := by simp at hi; omega
  subst hM
  rcases this with rfl | rfl | rfl | rfl | rfl | rfl | rfl | rfl | rfl | rfl | rfl | rfl <;> rfl
theorem open_s4 {w : World} {r : Reach} {base : Nat} {v : Value} (h : Value.okWide Tryd.prog w r base 45 v) : ∃ m : M4, v = .agg #[.int .i64 m.a.re, .int .i64 m.a.im, .int .i64 m.a.den, .int .i64 m.b.re, .int .i64 m.b.im, .int .i64 m.b.den, .int .i64 m.c.re, .int .i64 m.c.im, .int .i64 m.c.den, .int .i64 m.d.re, .int .i64 m.d.im, .int .i64 m.d.den] := by
  obtain ⟨cs, rfl, hs, hall⟩ := open_cells (n := 12) Tryd.underlying45 rfl Tryd.underlying3 (by kernel_rfl) (by kernel_rfl) h
  obtain ⟨M, hM⟩ : ∃ M : M4, M = m4At cs 0 := ⟨_, rfl⟩
  refine ⟨M, congrArg Value.agg ?_⟩
  refine arr_of (l := [.int .i64 M.a.re, .int .i64 M.a.im, .int .i64 M.a.den, .int .i64 M.b.re, .int .i64 M.b.im, .int .i64 M.b.den, .int .i64 M.c.re, .int .i64 M.c.im, .int .i64 M.c.den, .int .i64 M.d.re, .int .i64 M.d.im, .int .i64 M.d.den]) hs (fun i hi => ?_)
  rw [hall i hi]
  have : i = 0 ∨ i = 1 ∨ i = 2 ∨ i = 3 ∨ i = 4 ∨ i = 5 ∨ i = 6 ∨ i = 7 ∨ i = 8 ∨ i = 9 ∨ i = 10 ∨ i = 11 := by simp at hi; omega
  subst hM
  rcases this with rfl | rfl | rfl | rfl | rfl | rfl | rfl | rfl | rfl | rfl | rfl | rfl <;> rfl
end Go.Proofs.YtmcokdiopcpifaaDoor
