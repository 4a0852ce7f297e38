/-
  No cell of these rows narrows 'for every input' (looked for: loops, veiled, ifaces, maps, wideKeys, modest, calm, conditions, laid).
  DERIVED. THE GIVEN ROWS OF THIS SEAT. 9 by the template 'for every input the law returns true; each argument reads behind the call as it read before'; 0 by the template 'total and deterministic' (their statements: YtmfiiambannecaaTotals.lean).
  GIVEN WITH THE SEED: the statements are not yours to turn. If you find one false, say at which input.
  Laid BY PROGRAM, IN A SANDBOX (cutbox-rows.mjs): the forced cells as the released guide's own fill.sh prints them over the translation a4eb13cb9baeef91… (all of the seat's roots in one cut). By AI agents, Wed Nov 11 2026. No macro, syntax, notation, axiom, sorry.
-/
import Derived.Test.YtmfiiambannecaaChecked
import GoSem.Claim
import GoSem.ClaimJoined
import GoSem.ClaimMapViews
import Derived.JoinedTies
import Derived.KernelRfl
namespace Go.Proofs.Ytmfiiambannecaa
/- THE CELL 'sum', in the pinned program and in every row, IS THE sha256 OF THE DUMP (.gsa) THAT YtmfiiambannecaaProg.lean LOADS. Nothing in Lean hashes anything: it is a label: what it is worth is what the hold of that sum in a sandbox is worth. -/
noncomputable def Try.pinned : Pinned := { name := "ytmfiiambannecaa", sum := "a4eb13cb9baeef91bc4e3547bb442a02f7b03b4a491b790f7fead0106860cc26", checked := Try.checked }
namespace Rows
def none {H : Type} : Left H := { results := [], args := [] }

/-- 'laws.FnExactStokesTimes': WHATEVER THE INPUT: true; the input reads as it did. -/
def fnExactStokesTimesSpec : ChangeSpec := { name := "fnExactStokesTimes", fn := fun _ => fun
  | [d1, d2] => { results := [.lit (.bool true)], args := [d1, d2] }
  | _ => none }
def fnExactStokesTimesRow : OpenClaim := { program := "ytmfiiambannecaa", sum := "a4eb13cb9baeef91bc4e3547bb442a02f7b03b4a491b790f7fead0106860cc26", func := "loop.example/polarisedlight/laws.FnExactStokesTimes", spec := "fnExactStokesTimes", apart := false }
def FnExactStokesTimesSaid : Prop := fnExactStokesTimesRow.holds Try.pinned (OpenSpec.ofChange fnExactStokesTimesSpec)

/-- ITS FALSE NEIGHBOUR: 'it returns false'. Refute it at one input. -/
def fnExactStokesTimesWrong : ChangeSpec := { name := "fnExactStokesTimes", fn := fun _ => fun
  | [d1, d2] => { results := [.lit (.bool false)], args := [d1, d2] }
  | _ => none }
def FnExactStokesTimesWrongFalsely : Prop := fnExactStokesTimesRow.holds Try.pinned (OpenSpec.ofChange fnExactStokesTimesWrong)

/-- 'laws.FnExactMatScale': WHATEVER THE INPUT: true; the input reads as it did. -/
def fnExactMatScaleSpec : ChangeSpec := { name := "fnExactMatScale", fn := fun _ => fun
  | [d1, d2] => { results := [.lit (.bool true)], args := [d1, d2] }
  | _ => none }
def fnExactMatScaleRow : OpenClaim := { program := "ytmfiiambannecaa", sum := "a4eb13cb9baeef91bc4e3547bb442a02f7b03b4a491b790f7fead0106860cc26", func := "loop.example/polarisedlight/laws.FnExactMatScale", spec := "fnExactMatScale", apart := false }
def FnExactMatScaleSaid : Prop := fnExactMatScaleRow.holds Try.pinned (OpenSpec.ofChange fnExactMatScaleSpec)

/-- ITS FALSE NEIGHBOUR: 'it returns false'. Refute it at one input. -/
def fnExactMatScaleWrong : ChangeSpec := { name := "fnExactMatScale", fn := fun _ => fun
  | [d1, d2] => { results := [.lit (.bool false)], args := [d1, d2] }
  | _ => none }
def FnExactMatScaleWrongFalsely : Prop := fnExactMatScaleRow.holds Try.pinned (OpenSpec.ofChange fnExactMatScaleWrong)

/-- 'laws.FnExactStokesSquares': WHATEVER THE INPUT: true; the input reads as it did. -/
def fnExactStokesSquaresSpec : ChangeSpec := { name := "fnExactStokesSquares", fn := fun _ => fun
  | [d] => { results := [.lit (.bool true)], args := [d] }
  | _ => none }
def fnExactStokesSquaresRow : OpenClaim := { program := "ytmfiiambannecaa", sum := "a4eb13cb9baeef91bc4e3547bb442a02f7b03b4a491b790f7fead0106860cc26", func := "loop.example/polarisedlight/laws.FnExactStokesSquares", spec := "fnExactStokesSquares", apart := false }
def FnExactStokesSquaresSaid : Prop := fnExactStokesSquaresRow.holds Try.pinned (OpenSpec.ofChange fnExactStokesSquaresSpec)

/-- ITS FALSE NEIGHBOUR: 'it returns false'. Refute it at one input. -/
def fnExactStokesSquaresWrong : ChangeSpec := { name := "fnExactStokesSquares", fn := fun _ => fun
  | [d] => { results := [.lit (.bool false)], args := [d] }
  | _ => none }
def FnExactStokesSquaresWrongFalsely : Prop := fnExactStokesSquaresRow.holds Try.pinned (OpenSpec.ofChange fnExactStokesSquaresWrong)

/-- 'laws.FnExactStokesAdd': WHATEVER THE INPUT: true; the input reads as it did. -/
def fnExactStokesAddSpec : ChangeSpec := { name := "fnExactStokesAdd", fn := fun _ => fun
  | [d1, d2] => { results := [.lit (.bool true)], args := [d1, d2] }
  | _ => none }
def fnExactStokesAddRow : OpenClaim := { program := "ytmfiiambannecaa", sum := "a4eb13cb9baeef91bc4e3547bb442a02f7b03b4a491b790f7fead0106860cc26", func := "loop.example/polarisedlight/laws.FnExactStokesAdd", spec := "fnExactStokesAdd", apart := false }
def FnExactStokesAddSaid : Prop := fnExactStokesAddRow.holds Try.pinned (OpenSpec.ofChange fnExactStokesAddSpec)

/-- ITS FALSE NEIGHBOUR: 'it returns false'. Refute it at one input. -/
def fnExactStokesAddWrong : ChangeSpec := { name := "fnExactStokesAdd", fn := fun _ => fun
  | [d1, d2] => { results := [.lit (.bool false)], args := [d1, d2] }
  | _ => none }
def FnExactStokesAddWrongFalsely : Prop := fnExactStokesAddRow.holds Try.pinned (OpenSpec.ofChange fnExactStokesAddWrong)

/-- 'laws.FnExactMatApply': WHATEVER THE INPUT: true; the input reads as it did. -/
def fnExactMatApplySpec : ChangeSpec := { name := "fnExactMatApply", fn := fun _ => fun
  | [d1, d2] => { results := [.lit (.bool true)], args := [d1, d2] }
  | _ => none }
def fnExactMatApplyRow : OpenClaim := { program := "ytmfiiambannecaa", sum := "a4eb13cb9baeef91bc4e3547bb442a02f7b03b4a491b790f7fead0106860cc26", func := "loop.example/polarisedlight/laws.FnExactMatApply", spec := "fnExactMatApply", unfollowed := true, recurses := true, apart := false }
def FnExactMatApplySaid : Prop := fnExactMatApplyRow.holds Try.pinned (OpenSpec.ofChange fnExactMatApplySpec)

/-- ITS FALSE NEIGHBOUR: 'it returns false'. Refute it at one input. -/
def fnExactMatApplyWrong : ChangeSpec := { name := "fnExactMatApply", fn := fun _ => fun
  | [d1, d2] => { results := [.lit (.bool false)], args := [d1, d2] }
  | _ => none }
def FnExactMatApplyWrongFalsely : Prop := fnExactMatApplyRow.holds Try.pinned (OpenSpec.ofChange fnExactMatApplyWrong)

/-- 'laws.FnExactMatTimes': WHATEVER THE INPUT: true; the input reads as it did. -/
def fnExactMatTimesSpec : ChangeSpec := { name := "fnExactMatTimes", fn := fun _ => fun
  | [d1, d2] => { results := [.lit (.bool true)], args := [d1, d2] }
  | _ => none }
def fnExactMatTimesRow : OpenClaim := { program := "ytmfiiambannecaa", sum := "a4eb13cb9baeef91bc4e3547bb442a02f7b03b4a491b790f7fead0106860cc26", func := "loop.example/polarisedlight/laws.FnExactMatTimes", spec := "fnExactMatTimes", unfollowed := true, recurses := true, apart := false }
def FnExactMatTimesSaid : Prop := fnExactMatTimesRow.holds Try.pinned (OpenSpec.ofChange fnExactMatTimesSpec)

/-- ITS FALSE NEIGHBOUR: 'it returns false'. Refute it at one input. -/
def fnExactMatTimesWrong : ChangeSpec := { name := "fnExactMatTimes", fn := fun _ => fun
  | [d1, d2] => { results := [.lit (.bool false)], args := [d1, d2] }
  | _ => none }
def FnExactMatTimesWrongFalsely : Prop := fnExactMatTimesRow.holds Try.pinned (OpenSpec.ofChange fnExactMatTimesWrong)

/-- 'laws.FnExactStokesLight': WHATEVER THE INPUT: true; the input reads as it did. -/
def fnExactStokesLightSpec : ChangeSpec := { name := "fnExactStokesLight", fn := fun _ => fun
  | [d] => { results := [.lit (.bool true)], args := [d] }
  | _ => none }
def fnExactStokesLightRow : OpenClaim := { program := "ytmfiiambannecaa", sum := "a4eb13cb9baeef91bc4e3547bb442a02f7b03b4a491b790f7fead0106860cc26", func := "loop.example/polarisedlight/laws.FnExactStokesLight", spec := "fnExactStokesLight", apart := false }
def FnExactStokesLightSaid : Prop := fnExactStokesLightRow.holds Try.pinned (OpenSpec.ofChange fnExactStokesLightSpec)

/-- ITS FALSE NEIGHBOUR: 'it returns false'. Refute it at one input. -/
def fnExactStokesLightWrong : ChangeSpec := { name := "fnExactStokesLight", fn := fun _ => fun
  | [d] => { results := [.lit (.bool false)], args := [d] }
  | _ => none }
def FnExactStokesLightWrongFalsely : Prop := fnExactStokesLightRow.holds Try.pinned (OpenSpec.ofChange fnExactStokesLightWrong)

/-- 'laws.FnExactStokesPure': WHATEVER THE INPUT: true; the input reads as it did. -/
def fnExactStokesPureSpec : ChangeSpec := { name := "fnExactStokesPure", fn := fun _ => fun
  | [d] => { results := [.lit (.bool true)], args := [d] }
  | _ => none }
def fnExactStokesPureRow : OpenClaim := { program := "ytmfiiambannecaa", sum := "a4eb13cb9baeef91bc4e3547bb442a02f7b03b4a491b790f7fead0106860cc26", func := "loop.example/polarisedlight/laws.FnExactStokesPure", spec := "fnExactStokesPure", apart := false }
def FnExactStokesPureSaid : Prop := fnExactStokesPureRow.holds Try.pinned (OpenSpec.ofChange fnExactStokesPureSpec)

/-- ITS FALSE NEIGHBOUR: 'it returns false'. Refute it at one input. -/
def fnExactStokesPureWrong : ChangeSpec := { name := "fnExactStokesPure", fn := fun _ => fun
  | [d] => { results := [.lit (.bool false)], args := [d] }
  | _ => none }
def FnExactStokesPureWrongFalsely : Prop := fnExactStokesPureRow.holds Try.pinned (OpenSpec.ofChange fnExactStokesPureWrong)

/-- 'laws.FnExactStokesOf': WHATEVER THE INPUT: true; the input reads as it did. -/
def fnExactStokesOfSpec : ChangeSpec := { name := "fnExactStokesOf", fn := fun _ => fun
  | [d] => { results := [.lit (.bool true)], args := [d] }
  | _ => none }
def fnExactStokesOfRow : OpenClaim := { program := "ytmfiiambannecaa", sum := "a4eb13cb9baeef91bc4e3547bb442a02f7b03b4a491b790f7fead0106860cc26", func := "loop.example/polarisedlight/laws.FnExactStokesOf", spec := "fnExactStokesOf", apart := false }
def FnExactStokesOfSaid : Prop := fnExactStokesOfRow.holds Try.pinned (OpenSpec.ofChange fnExactStokesOfSpec)

/-- ITS FALSE NEIGHBOUR: 'it returns false'. Refute it at one input. -/
def fnExactStokesOfWrong : ChangeSpec := { name := "fnExactStokesOf", fn := fun _ => fun
  | [d] => { results := [.lit (.bool false)], args := [d] }
  | _ => none }
def FnExactStokesOfWrongFalsely : Prop := fnExactStokesOfRow.holds Try.pinned (OpenSpec.ofChange fnExactStokesOfWrong)

/- THE SECOND FORM. 'bulk': how many values and letters a reading holds, each counted each time it is reached (what is shared counts as often as it is met; a slice's spare places count too). A statement '..UptoSaid' is the law's where the arguments, and the package variables that the reading takes, are together of bulk at most 1048576: NARROWER than '..Said'. Prove '..Said' where nothing that the law and all that it calls make is longer than what came in: it says more and counts as full. Else prove '..UptoSaid'. A law counts once. -/
mutual
def uptoBulk {H : Type} : DataW H → Nat
  | .lit (.string bytes) => bytes.length + 1
  | .lit _ => 1
  | .nil => 1
  | .ptr d => uptoBulk d + 1
  | .slice elems spare => uptoBulkAll elems + uptoBulkAll spare + 1
  | .agg parts => uptoBulkAll parts + 1
  | .iface _ d => uptoBulk d + 1
  | .map entries => uptoBulkEntries entries + 1
  | .held _ => 1
def uptoBulkAll {H : Type} : List (DataW H) → Nat
  | [] => 0
  | d :: r => uptoBulk d + uptoBulkAll r
def uptoBulkEntries {H : Type} : List (Lit × DataW H) → Nat
  | [] => 0
  | x :: r => uptoBulkEntry x + uptoBulkEntries r
def uptoBulkEntry {H : Type} : Lit × DataW H → Nat
  | (.string bytes, d) => bytes.length + uptoBulk d + 1
  | (_, d) => uptoBulk d + 1
 end
def uptoSmall : (H : Type) → List (DataW H) → Bool := fun _ ds => decide (uptoBulkAll ds ≤ 1048576)
def OpenSpec.upto (s : _root_.Go.ChangeSpec) : _root_.Go.OpenSpec := { _root_.Go.OpenSpec.ofChange s with cond := some uptoSmall }

/-- 'laws.FnExactStokesTimes', WHERE WHAT IT READS IS OF BULK AT MOST 1048576: true; the input reads as it did. -/
def fnExactStokesTimesUptoRow : OpenClaim := { program := "ytmfiiambannecaa", sum := "a4eb13cb9baeef91bc4e3547bb442a02f7b03b4a491b790f7fead0106860cc26", func := "loop.example/polarisedlight/laws.FnExactStokesTimes", spec := "fnExactStokesTimes", apart := false, narrowed := true }
def FnExactStokesTimesUptoSaid : Prop := fnExactStokesTimesUptoRow.holds Try.pinned (OpenSpec.upto fnExactStokesTimesSpec)

/-- 'laws.FnExactMatScale', WHERE WHAT IT READS IS OF BULK AT MOST 1048576: true; the input reads as it did. -/
def fnExactMatScaleUptoRow : OpenClaim := { program := "ytmfiiambannecaa", sum := "a4eb13cb9baeef91bc4e3547bb442a02f7b03b4a491b790f7fead0106860cc26", func := "loop.example/polarisedlight/laws.FnExactMatScale", spec := "fnExactMatScale", apart := false, narrowed := true }
def FnExactMatScaleUptoSaid : Prop := fnExactMatScaleUptoRow.holds Try.pinned (OpenSpec.upto fnExactMatScaleSpec)

/-- 'laws.FnExactStokesSquares', WHERE WHAT IT READS IS OF BULK AT MOST 1048576: true; the input reads as it did. -/
def fnExactStokesSquaresUptoRow : OpenClaim := { program := "ytmfiiambannecaa", sum := "a4eb13cb9baeef91bc4e3547bb442a02f7b03b4a491b790f7fead0106860cc26", func := "loop.example/polarisedlight/laws.FnExactStokesSquares", spec := "fnExactStokesSquares", apart := false, narrowed := true }
def FnExactStokesSquaresUptoSaid : Prop := fnExactStokesSquaresUptoRow.holds Try.pinned (OpenSpec.upto fnExactStokesSquaresSpec)

/-- 'laws.FnExactStokesAdd', WHERE WHAT IT READS IS OF BULK AT MOST 1048576: true; the input reads as it did. -/
def fnExactStokesAddUptoRow : OpenClaim := { program := "ytmfiiambannecaa", sum := "a4eb13cb9baeef91bc4e3547bb442a02f7b03b4a491b790f7fead0106860cc26", func := "loop.example/polarisedlight/laws.FnExactStokesAdd", spec := "fnExactStokesAdd", apart := false, narrowed := true }
def FnExactStokesAddUptoSaid : Prop := fnExactStokesAddUptoRow.holds Try.pinned (OpenSpec.upto fnExactStokesAddSpec)

/-- 'laws.FnExactMatApply', WHERE WHAT IT READS IS OF BULK AT MOST 1048576: true; the input reads as it did. -/
def fnExactMatApplyUptoRow : OpenClaim := { program := "ytmfiiambannecaa", sum := "a4eb13cb9baeef91bc4e3547bb442a02f7b03b4a491b790f7fead0106860cc26", func := "loop.example/polarisedlight/laws.FnExactMatApply", spec := "fnExactMatApply", unfollowed := true, recurses := true, apart := false, narrowed := true }
def FnExactMatApplyUptoSaid : Prop := fnExactMatApplyUptoRow.holds Try.pinned (OpenSpec.upto fnExactMatApplySpec)

/-- 'laws.FnExactMatTimes', WHERE WHAT IT READS IS OF BULK AT MOST 1048576: true; the input reads as it did. -/
def fnExactMatTimesUptoRow : OpenClaim := { program := "ytmfiiambannecaa", sum := "a4eb13cb9baeef91bc4e3547bb442a02f7b03b4a491b790f7fead0106860cc26", func := "loop.example/polarisedlight/laws.FnExactMatTimes", spec := "fnExactMatTimes", unfollowed := true, recurses := true, apart := false, narrowed := true }
def FnExactMatTimesUptoSaid : Prop := fnExactMatTimesUptoRow.holds Try.pinned (OpenSpec.upto fnExactMatTimesSpec)

/-- 'laws.FnExactStokesLight', WHERE WHAT IT READS IS OF BULK AT MOST 1048576: true; the input reads as it did. -/
def fnExactStokesLightUptoRow : OpenClaim := { program := "ytmfiiambannecaa", sum := "a4eb13cb9baeef91bc4e3547bb442a02f7b03b4a491b790f7fead0106860cc26", func := "loop.example/polarisedlight/laws.FnExactStokesLight", spec := "fnExactStokesLight", apart := false, narrowed := true }
def FnExactStokesLightUptoSaid : Prop := fnExactStokesLightUptoRow.holds Try.pinned (OpenSpec.upto fnExactStokesLightSpec)

/-- 'laws.FnExactStokesPure', WHERE WHAT IT READS IS OF BULK AT MOST 1048576: true; the input reads as it did. -/
def fnExactStokesPureUptoRow : OpenClaim := { program := "ytmfiiambannecaa", sum := "a4eb13cb9baeef91bc4e3547bb442a02f7b03b4a491b790f7fead0106860cc26", func := "loop.example/polarisedlight/laws.FnExactStokesPure", spec := "fnExactStokesPure", apart := false, narrowed := true }
def FnExactStokesPureUptoSaid : Prop := fnExactStokesPureUptoRow.holds Try.pinned (OpenSpec.upto fnExactStokesPureSpec)

/-- 'laws.FnExactStokesOf', WHERE WHAT IT READS IS OF BULK AT MOST 1048576: true; the input reads as it did. -/
def fnExactStokesOfUptoRow : OpenClaim := { program := "ytmfiiambannecaa", sum := "a4eb13cb9baeef91bc4e3547bb442a02f7b03b4a491b790f7fead0106860cc26", func := "loop.example/polarisedlight/laws.FnExactStokesOf", spec := "fnExactStokesOf", apart := false, narrowed := true }
def FnExactStokesOfUptoSaid : Prop := fnExactStokesOfUptoRow.holds Try.pinned (OpenSpec.upto fnExactStokesOfSpec)

end Rows
end Go.Proofs.Ytmfiiambannecaa
