/-
  No cell of these rows narrows 'for every input' (looked for: loops, veiled, ifaces, maps, wideKeys, modest, calm, conditions, laid).
  DERIVED. THE GIVEN ROWS OF THIS SEAT. 4 by the template 'for every input the law returns true; each argument reads behind the call as it read before'; 0 by the template 'total and deterministic' (their statements: YtcpdapfcbnhgaaaTotals.lean).
  GIVEN WITH THE SEED: the statements are not yours to turn. If you find one false, say at which input.
  Laid BY PROGRAM, IN A SANDBOX (cutbox-rows.mjs): the forced cells as the released guide's own fill.sh prints them over the translation 26b3854551e96dc9… (all of the seat's roots in one cut). By AI agents, Wed Nov 11 2026. No macro, syntax, notation, axiom, sorry.
-/
import Derived.Test.YtcpdapfcbnhgaaaChecked
import GoSem.Claim
import GoSem.ClaimJoined
import GoSem.ClaimMapViews
import Derived.JoinedTies
import Derived.KernelRfl
namespace Go.Proofs.Ytcpdapfcbnhgaaa
/- THE CELL 'sum', in the pinned program and in every row, IS THE sha256 OF THE DUMP (.gsa) THAT YtcpdapfcbnhgaaaProg.lean LOADS. Nothing in Lean hashes anything: it is a label: what it is worth is what the hold of that sum in a sandbox is worth. -/
noncomputable def Try.pinned : Pinned := { name := "ytcpdapfcbnhgaaa", sum := "26b3854551e96dc9f7c7a482ff7439427f566bf416776698f52184f470e20e25", checked := Try.checked }
namespace Rows
def none {H : Type} : Left H := { results := [], args := [] }

/-- 'laws.FnFilter': WHATEVER THE INPUT: true; the input reads as it did. -/
def fnFilterSpec : ChangeSpec := { name := "fnFilter", fn := fun _ => fun
  | [d] => { results := [.lit (.bool true)], args := [d] }
  | _ => none }
def fnFilterRow : OpenClaim := { program := "ytcpdapfcbnhgaaa", sum := "26b3854551e96dc9f7c7a482ff7439427f566bf416776698f52184f470e20e25", func := "loop.example/polarisedlight/laws.FnFilter", spec := "fnFilter", unfollowed := true, recurses := true, apart := false }
def FnFilterSaid : Prop := fnFilterRow.holds Try.pinned (OpenSpec.ofChange fnFilterSpec)

/-- ITS FALSE NEIGHBOUR: 'it returns false'. Refute it at one input. -/
def fnFilterWrong : ChangeSpec := { name := "fnFilter", fn := fun _ => fun
  | [d] => { results := [.lit (.bool false)], args := [d] }
  | _ => none }
def FnFilterWrongFalsely : Prop := fnFilterRow.holds Try.pinned (OpenSpec.ofChange fnFilterWrong)

/-- 'laws.FnAdjoint': WHATEVER THE INPUT: true; the input reads as it did. -/
def fnAdjointSpec : ChangeSpec := { name := "fnAdjoint", fn := fun _ => fun
  | [d] => { results := [.lit (.bool true)], args := [d] }
  | _ => none }
def fnAdjointRow : OpenClaim := { program := "ytcpdapfcbnhgaaa", sum := "26b3854551e96dc9f7c7a482ff7439427f566bf416776698f52184f470e20e25", func := "loop.example/polarisedlight/laws.FnAdjoint", spec := "fnAdjoint", apart := false }
def FnAdjointSaid : Prop := fnAdjointRow.holds Try.pinned (OpenSpec.ofChange fnAdjointSpec)

/-- ITS FALSE NEIGHBOUR: 'it returns false'. Refute it at one input. -/
def fnAdjointWrong : ChangeSpec := { name := "fnAdjoint", fn := fun _ => fun
  | [d] => { results := [.lit (.bool false)], args := [d] }
  | _ => none }
def FnAdjointWrongFalsely : Prop := fnAdjointRow.holds Try.pinned (OpenSpec.ofChange fnAdjointWrong)

/-- 'laws.FnMat': WHATEVER THE INPUT: true; the input reads as it did. -/
def fnMatSpec : ChangeSpec := { name := "fnMat", fn := fun _ => fun
  | [d] => { results := [.lit (.bool true)], args := [d] }
  | _ => none }
def fnMatRow : OpenClaim := { program := "ytcpdapfcbnhgaaa", sum := "26b3854551e96dc9f7c7a482ff7439427f566bf416776698f52184f470e20e25", func := "loop.example/polarisedlight/laws.FnMat", spec := "fnMat", unfollowed := true, recurses := true, apart := false }
def FnMatSaid : Prop := fnMatRow.holds Try.pinned (OpenSpec.ofChange fnMatSpec)

/-- ITS FALSE NEIGHBOUR: 'it returns false'. Refute it at one input. -/
def fnMatWrong : ChangeSpec := { name := "fnMat", fn := fun _ => fun
  | [d] => { results := [.lit (.bool false)], args := [d] }
  | _ => none }
def FnMatWrongFalsely : Prop := fnMatRow.holds Try.pinned (OpenSpec.ofChange fnMatWrong)

/-- 'laws.FnMatTimes': WHATEVER THE INPUT: true; the input reads as it did. -/
def fnMatTimesSpec : ChangeSpec := { name := "fnMatTimes", fn := fun _ => fun
  | [d] => { results := [.lit (.bool true)], args := [d] }
  | _ => none }
def fnMatTimesRow : OpenClaim := { program := "ytcpdapfcbnhgaaa", sum := "26b3854551e96dc9f7c7a482ff7439427f566bf416776698f52184f470e20e25", func := "loop.example/polarisedlight/laws.FnMatTimes", spec := "fnMatTimes", unfollowed := true, recurses := true, apart := false }
def FnMatTimesSaid : Prop := fnMatTimesRow.holds Try.pinned (OpenSpec.ofChange fnMatTimesSpec)

/-- ITS FALSE NEIGHBOUR: 'it returns false'. Refute it at one input. -/
def fnMatTimesWrong : ChangeSpec := { name := "fnMatTimes", fn := fun _ => fun
  | [d] => { results := [.lit (.bool false)], args := [d] }
  | _ => none }
def FnMatTimesWrongFalsely : Prop := fnMatTimesRow.holds Try.pinned (OpenSpec.ofChange fnMatTimesWrong)

/- THE SECOND FORM. 'bulk': how many values and letters a reading holds, each counted each time it is reached (what is shared counts as often as it is met; a slice's spare places count too). A statement '..UptoSaid' is the law's where the arguments, and the package variables that the reading takes, are together of bulk at most 1048576: NARROWER than '..Said'. Prove '..Said' where nothing that the law and all that it calls make is longer than what came in: it says more and counts as full. Else prove '..UptoSaid'. A law counts once. -/
mutual
def uptoBulk {H : Type} : DataW H → Nat
  | .lit (.string bytes) => bytes.length + 1
  | .lit _ => 1
  | .nil => 1
  | .ptr d => uptoBulk d + 1
  | .slice elems spare => uptoBulkAll elems + uptoBulkAll spare + 1
  | .agg parts => uptoBulkAll parts + 1
  | .iface _ d => uptoBulk d + 1
  | .map entries => uptoBulkEntries entries + 1
  | .held _ => 1
def uptoBulkAll {H : Type} : List (DataW H) → Nat
  | [] => 0
  | d :: r => uptoBulk d + uptoBulkAll r
def uptoBulkEntries {H : Type} : List (Lit × DataW H) → Nat
  | [] => 0
  | x :: r => uptoBulkEntry x + uptoBulkEntries r
def uptoBulkEntry {H : Type} : Lit × DataW H → Nat
  | (.string bytes, d) => bytes.length + uptoBulk d + 1
  | (_, d) => uptoBulk d + 1
 end
def uptoSmall : (H : Type) → List (DataW H) → Bool := fun _ ds => decide (uptoBulkAll ds ≤ 1048576)
def OpenSpec.upto (s : _root_.Go.ChangeSpec) : _root_.Go.OpenSpec := { _root_.Go.OpenSpec.ofChange s with cond := some uptoSmall }

/-- 'laws.FnFilter', WHERE WHAT IT READS IS OF BULK AT MOST 1048576: true; the input reads as it did. -/
def fnFilterUptoRow : OpenClaim := { program := "ytcpdapfcbnhgaaa", sum := "26b3854551e96dc9f7c7a482ff7439427f566bf416776698f52184f470e20e25", func := "loop.example/polarisedlight/laws.FnFilter", spec := "fnFilter", unfollowed := true, recurses := true, apart := false, narrowed := true }
def FnFilterUptoSaid : Prop := fnFilterUptoRow.holds Try.pinned (OpenSpec.upto fnFilterSpec)

/-- 'laws.FnAdjoint', WHERE WHAT IT READS IS OF BULK AT MOST 1048576: true; the input reads as it did. -/
def fnAdjointUptoRow : OpenClaim := { program := "ytcpdapfcbnhgaaa", sum := "26b3854551e96dc9f7c7a482ff7439427f566bf416776698f52184f470e20e25", func := "loop.example/polarisedlight/laws.FnAdjoint", spec := "fnAdjoint", apart := false, narrowed := true }
def FnAdjointUptoSaid : Prop := fnAdjointUptoRow.holds Try.pinned (OpenSpec.upto fnAdjointSpec)

/-- 'laws.FnMat', WHERE WHAT IT READS IS OF BULK AT MOST 1048576: true; the input reads as it did. -/
def fnMatUptoRow : OpenClaim := { program := "ytcpdapfcbnhgaaa", sum := "26b3854551e96dc9f7c7a482ff7439427f566bf416776698f52184f470e20e25", func := "loop.example/polarisedlight/laws.FnMat", spec := "fnMat", unfollowed := true, recurses := true, apart := false, narrowed := true }
def FnMatUptoSaid : Prop := fnMatUptoRow.holds Try.pinned (OpenSpec.upto fnMatSpec)

/-- 'laws.FnMatTimes', WHERE WHAT IT READS IS OF BULK AT MOST 1048576: true; the input reads as it did. -/
def fnMatTimesUptoRow : OpenClaim := { program := "ytcpdapfcbnhgaaa", sum := "26b3854551e96dc9f7c7a482ff7439427f566bf416776698f52184f470e20e25", func := "loop.example/polarisedlight/laws.FnMatTimes", spec := "fnMatTimes", unfollowed := true, recurses := true, apart := false, narrowed := true }
def FnMatTimesUptoSaid : Prop := fnMatTimesUptoRow.holds Try.pinned (OpenSpec.upto fnMatTimesSpec)

end Rows
end Go.Proofs.Ytcpdapfcbnhgaaa
