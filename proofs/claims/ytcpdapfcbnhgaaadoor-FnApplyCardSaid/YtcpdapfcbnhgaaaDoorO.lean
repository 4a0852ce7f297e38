/- How the arguments of a law read: fractions, vectors, matrices, tables by value are their integers. -/
import Derived.Test.YtcpdapfcbnhgaaaDoorRows
import Derived.Test.YtcpdapfcbnhgaaaDoorPlain
import Derived.WalkKit
import Derived.ProofKit
import Derived.OpenShut
namespace Go.Proofs.YtcpdapfcbnhgaaaDoor
open Go.ChangeShapes Go.WideShapes Go.ChangeAt Go.RowKit Pol

theorem Tryd.own : ownKnob Tryd.prog.godebug = none := by kernel_rfl
theorem Tryd.laidOut : laidOutB Tryd.prog = true := by kernel_rfl

/-- The number in place i. -/
def numAt (cs : Array Value) (i : Nat) : Int := match cs[i]? with | some (.int _ z) => z | _ => 0

theorem open_cells {P : Program} {w : World} {r : Reach} {base t ti : TypeId} {v : Value} {n : Nat} {d : TypeDesc} (hd : P.underlying t = some d) (hr : (match d with | .struct _ | .array _ _ => true | _ => false) = true)
    (hi : P.underlying ti = some (.int .i64)) (hc : P.cellsOf t = n) (ht : P.cellTypes P.depth t = some (List.replicate n ti)) (h : Value.okWide P w r base t v) :
    ∃ cs : Array Value, v = .agg cs ∧ cs.size = n ∧ ∀ i, i < n → cs[i]? = some (.int .i64 (numAt cs i)) := by
  unfold Value.okWide at h
  rw [hd] at h
  have h' : ∃ cs, v = .agg cs ∧ cs.size = P.cellsOf t ∧ Row.okWide P w r base t cs := by
    cases d <;> first | exact h | cases hr
  obtain ⟨cs, rfl, hs, ts, hts, _, hall⟩ := h'
  refine ⟨cs, rfl, by rw [hs, hc], fun i hi' => ?_⟩
  have hlt : i < cs.size := by omega
  have hg : cs[i]? = some cs[i] := Array.getElem?_eq_getElem hlt
  obtain ⟨u, hu, hok⟩ := hall i _ hg
  rw [hts] at ht
  obtain rfl := Option.some.inj ht
  have : u = ti := by
    have := List.mem_of_getElem? hu
    exact (List.mem_replicate.1 this).2
  subst this
  unfold Cell.okWide at hok
  rw [hi] at hok
  unfold numAt
  rw [hg]
  generalize cs[i] = x at hok
  unfold Cell.ok at hok
  rw [hi] at hok
  cases x <;> first | (obtain ⟨rfl, _⟩ := hok; rfl) | (exact absurd hok (by simp))

theorem arr_of {cs : Array Value} {l : List Value} (hs : cs.size = l.length) (h : ∀ i, i < l.length → cs[i]? = l[i]?) : cs = l.toArray := by
  apply Array.ext_getElem?
  intro i
  by_cases hi : i < l.length
  · rw [h i hi]; simp
  · rw [Array.getElem?_eq_none (by omega)]; simp; omega
def frAt (cs : Array Value) (k : Nat) : Fr := ⟨numAt cs k, numAt cs (k + 1), numAt cs (k + 2)⟩
def m4At (cs : Array Value) (k : Nat) : M4 := ⟨frAt cs k, frAt cs (k + 3), frAt cs (k + 6), frAt cs (k + 9)⟩
end Go.Proofs.YtcpdapfcbnhgaaaDoor
