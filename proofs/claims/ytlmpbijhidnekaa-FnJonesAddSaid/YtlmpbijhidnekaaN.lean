/- Contracts of the reference: which matrices, numbers and tables are valid. -/
import Derived.Test.YtlmpbijhidnekaaF
import Derived.Test.YtlmpbijhidnekaaH
import Derived.Test.YtlmpbijhidnekaaL
namespace Go.Proofs.Ytlmpbijhidnekaa
open Go.RowKit Pol

/-- The first k pass; the box holds the fractions; nothing that was there has turned. -/
def XRel (p : Fr → Bool) (g : Nat → Fr) (n : Nat) (W : World) (i : Value) (wr : World) : Prop := ∃ k : Nat, k ≤ n ∧ i = .int .i64 k ∧ Hid (apre p g k = true) ∧ Below W.heap.size W wr ∧ W.heap.size + 1 ≤ wr.heap.size ∧ BoxAt wr W.heap.size g n
theorem XRel.mk {p : Fr → Bool} {g : Nat → Fr} {n : Nat} {W wr : World} {i : Value} (k : Nat) (h : k ≤ n) (hi : i = .int .i64 k) (hp : apre p g k = true) (hb : Below W.heap.size W wr) (hs : W.heap.size + 1 ≤ wr.heap.size) (hx : BoxAt wr W.heap.size g n) : XRel p g n W i wr := ⟨k, h, hi, hp, hb, hs, hx⟩
end Go.Proofs.Ytlmpbijhidnekaa
