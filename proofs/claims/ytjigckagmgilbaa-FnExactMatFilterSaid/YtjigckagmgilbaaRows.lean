/-
  No cell of these rows narrows 'for every input' (looked for: loops, veiled, ifaces, maps, wideKeys, modest, calm, conditions, laid).
  DERIVED. THE GIVEN ROWS OF THIS SEAT. 9 by the template 'for every input the law returns true; each argument reads behind the call as it read before'; 0 by the template 'total and deterministic' (their statements: YtjigckagmgilbaaTotals.lean).
  GIVEN WITH THE SEED: the statements are not yours to turn. If you find one false, say at which input.
  Laid BY PROGRAM, IN A SANDBOX (cutbox-rows.mjs): the forced cells as the released guide's own fill.sh prints them over the translation a75bb246ba68e2a1… (all of the seat's roots in one cut). By AI agents, Wed Nov 11 2026. No macro, syntax, notation, axiom, sorry.
-/
import Derived.Test.YtjigckagmgilbaaChecked
import GoSem.Claim
import GoSem.ClaimJoined
import GoSem.ClaimMapViews
import Derived.JoinedTies
import Derived.KernelRfl
namespace Go.Proofs.Ytjigckagmgilbaa
/- THE CELL 'sum', in the pinned program and in every row, IS THE sha256 OF THE DUMP (.gsa) THAT YtjigckagmgilbaaProg.lean LOADS. Nothing in Lean hashes anything: it is a label: what it is worth is what the hold of that sum in a sandbox is worth. -/
noncomputable def Try.pinned : Pinned := { name := "ytjigckagmgilbaa", sum := "a75bb246ba68e2a12395dec26dd162aadd0445171b2708b87bcc515acbc292a0", checked := Try.checked }
namespace Rows
def none {H : Type} : Left H := { results := [], args := [] }

/-- 'laws.FnExactMatValid': WHATEVER THE INPUT: true; the input reads as it did. -/
def fnExactMatValidSpec : ChangeSpec := { name := "fnExactMatValid", fn := fun _ => fun
  | [d] => { results := [.lit (.bool true)], args := [d] }
  | _ => none }
def fnExactMatValidRow : OpenClaim := { program := "ytjigckagmgilbaa", sum := "a75bb246ba68e2a12395dec26dd162aadd0445171b2708b87bcc515acbc292a0", func := "loop.example/polarisedlight/laws.FnExactMatValid", spec := "fnExactMatValid", apart := false }
def FnExactMatValidSaid : Prop := fnExactMatValidRow.holds Try.pinned (OpenSpec.ofChange fnExactMatValidSpec)

/-- ITS FALSE NEIGHBOUR: 'it returns false'. Refute it at one input. -/
def fnExactMatValidWrong : ChangeSpec := { name := "fnExactMatValid", fn := fun _ => fun
  | [d] => { results := [.lit (.bool false)], args := [d] }
  | _ => none }
def FnExactMatValidWrongFalsely : Prop := fnExactMatValidRow.holds Try.pinned (OpenSpec.ofChange fnExactMatValidWrong)

/-- 'laws.FnExactStokesValid': WHATEVER THE INPUT: true; the input reads as it did. -/
def fnExactStokesValidSpec : ChangeSpec := { name := "fnExactStokesValid", fn := fun _ => fun
  | [d] => { results := [.lit (.bool true)], args := [d] }
  | _ => none }
def fnExactStokesValidRow : OpenClaim := { program := "ytjigckagmgilbaa", sum := "a75bb246ba68e2a12395dec26dd162aadd0445171b2708b87bcc515acbc292a0", func := "loop.example/polarisedlight/laws.FnExactStokesValid", spec := "fnExactStokesValid", apart := false }
def FnExactStokesValidSaid : Prop := fnExactStokesValidRow.holds Try.pinned (OpenSpec.ofChange fnExactStokesValidSpec)

/-- ITS FALSE NEIGHBOUR: 'it returns false'. Refute it at one input. -/
def fnExactStokesValidWrong : ChangeSpec := { name := "fnExactStokesValid", fn := fun _ => fun
  | [d] => { results := [.lit (.bool false)], args := [d] }
  | _ => none }
def FnExactStokesValidWrongFalsely : Prop := fnExactStokesValidRow.holds Try.pinned (OpenSpec.ofChange fnExactStokesValidWrong)

/-- 'laws.FnExactTableValid': WHATEVER THE INPUT: true; the input reads as it did. -/
def fnExactTableValidSpec : ChangeSpec := { name := "fnExactTableValid", fn := fun _ => fun
  | [d] => { results := [.lit (.bool true)], args := [d] }
  | _ => none }
def fnExactTableValidRow : OpenClaim := { program := "ytjigckagmgilbaa", sum := "a75bb246ba68e2a12395dec26dd162aadd0445171b2708b87bcc515acbc292a0", func := "loop.example/polarisedlight/laws.FnExactTableValid", spec := "fnExactTableValid", apart := false }
def FnExactTableValidSaid : Prop := fnExactTableValidRow.holds Try.pinned (OpenSpec.ofChange fnExactTableValidSpec)

/-- ITS FALSE NEIGHBOUR: 'it returns false'. Refute it at one input. -/
def fnExactTableValidWrong : ChangeSpec := { name := "fnExactTableValid", fn := fun _ => fun
  | [d] => { results := [.lit (.bool false)], args := [d] }
  | _ => none }
def FnExactTableValidWrongFalsely : Prop := fnExactTableValidRow.holds Try.pinned (OpenSpec.ofChange fnExactTableValidWrong)

/-- 'laws.FnExactStokesMirror': WHATEVER THE INPUT: true; the input reads as it did. -/
def fnExactStokesMirrorSpec : ChangeSpec := { name := "fnExactStokesMirror", fn := fun _ => fun
  | [d] => { results := [.lit (.bool true)], args := [d] }
  | _ => none }
def fnExactStokesMirrorRow : OpenClaim := { program := "ytjigckagmgilbaa", sum := "a75bb246ba68e2a12395dec26dd162aadd0445171b2708b87bcc515acbc292a0", func := "loop.example/polarisedlight/laws.FnExactStokesMirror", spec := "fnExactStokesMirror", apart := false }
def FnExactStokesMirrorSaid : Prop := fnExactStokesMirrorRow.holds Try.pinned (OpenSpec.ofChange fnExactStokesMirrorSpec)

/-- ITS FALSE NEIGHBOUR: 'it returns false'. Refute it at one input. -/
def fnExactStokesMirrorWrong : ChangeSpec := { name := "fnExactStokesMirror", fn := fun _ => fun
  | [d] => { results := [.lit (.bool false)], args := [d] }
  | _ => none }
def FnExactStokesMirrorWrongFalsely : Prop := fnExactStokesMirrorRow.holds Try.pinned (OpenSpec.ofChange fnExactStokesMirrorWrong)

/-- 'laws.FnExactMatRotator': WHATEVER THE INPUT: true; the input reads as it did. -/
def fnExactMatRotatorSpec : ChangeSpec := { name := "fnExactMatRotator", fn := fun _ => fun
  | [d1, d2] => { results := [.lit (.bool true)], args := [d1, d2] }
  | _ => none }
def fnExactMatRotatorRow : OpenClaim := { program := "ytjigckagmgilbaa", sum := "a75bb246ba68e2a12395dec26dd162aadd0445171b2708b87bcc515acbc292a0", func := "loop.example/polarisedlight/laws.FnExactMatRotator", spec := "fnExactMatRotator", apart := false }
def FnExactMatRotatorSaid : Prop := fnExactMatRotatorRow.holds Try.pinned (OpenSpec.ofChange fnExactMatRotatorSpec)

/-- ITS FALSE NEIGHBOUR: 'it returns false'. Refute it at one input. -/
def fnExactMatRotatorWrong : ChangeSpec := { name := "fnExactMatRotator", fn := fun _ => fun
  | [d1, d2] => { results := [.lit (.bool false)], args := [d1, d2] }
  | _ => none }
def FnExactMatRotatorWrongFalsely : Prop := fnExactMatRotatorRow.holds Try.pinned (OpenSpec.ofChange fnExactMatRotatorWrong)

/-- 'laws.FnExactMatAdjoint': WHATEVER THE INPUT: true; the input reads as it did. -/
def fnExactMatAdjointSpec : ChangeSpec := { name := "fnExactMatAdjoint", fn := fun _ => fun
  | [d] => { results := [.lit (.bool true)], args := [d] }
  | _ => none }
def fnExactMatAdjointRow : OpenClaim := { program := "ytjigckagmgilbaa", sum := "a75bb246ba68e2a12395dec26dd162aadd0445171b2708b87bcc515acbc292a0", func := "loop.example/polarisedlight/laws.FnExactMatAdjoint", spec := "fnExactMatAdjoint", apart := false }
def FnExactMatAdjointSaid : Prop := fnExactMatAdjointRow.holds Try.pinned (OpenSpec.ofChange fnExactMatAdjointSpec)

/-- ITS FALSE NEIGHBOUR: 'it returns false'. Refute it at one input. -/
def fnExactMatAdjointWrong : ChangeSpec := { name := "fnExactMatAdjoint", fn := fun _ => fun
  | [d] => { results := [.lit (.bool false)], args := [d] }
  | _ => none }
def FnExactMatAdjointWrongFalsely : Prop := fnExactMatAdjointRow.holds Try.pinned (OpenSpec.ofChange fnExactMatAdjointWrong)

/-- 'laws.FnExactStokesAlike': WHATEVER THE INPUT: true; the input reads as it did. -/
def fnExactStokesAlikeSpec : ChangeSpec := { name := "fnExactStokesAlike", fn := fun _ => fun
  | [d1, d2] => { results := [.lit (.bool true)], args := [d1, d2] }
  | _ => none }
def fnExactStokesAlikeRow : OpenClaim := { program := "ytjigckagmgilbaa", sum := "a75bb246ba68e2a12395dec26dd162aadd0445171b2708b87bcc515acbc292a0", func := "loop.example/polarisedlight/laws.FnExactStokesAlike", spec := "fnExactStokesAlike", apart := false }
def FnExactStokesAlikeSaid : Prop := fnExactStokesAlikeRow.holds Try.pinned (OpenSpec.ofChange fnExactStokesAlikeSpec)

/-- ITS FALSE NEIGHBOUR: 'it returns false'. Refute it at one input. -/
def fnExactStokesAlikeWrong : ChangeSpec := { name := "fnExactStokesAlike", fn := fun _ => fun
  | [d1, d2] => { results := [.lit (.bool false)], args := [d1, d2] }
  | _ => none }
def FnExactStokesAlikeWrongFalsely : Prop := fnExactStokesAlikeRow.holds Try.pinned (OpenSpec.ofChange fnExactStokesAlikeWrong)

/-- 'laws.FnExactMatDet': WHATEVER THE INPUT: true; the input reads as it did. -/
def fnExactMatDetSpec : ChangeSpec := { name := "fnExactMatDet", fn := fun _ => fun
  | [d] => { results := [.lit (.bool true)], args := [d] }
  | _ => none }
def fnExactMatDetRow : OpenClaim := { program := "ytjigckagmgilbaa", sum := "a75bb246ba68e2a12395dec26dd162aadd0445171b2708b87bcc515acbc292a0", func := "loop.example/polarisedlight/laws.FnExactMatDet", spec := "fnExactMatDet", apart := false }
def FnExactMatDetSaid : Prop := fnExactMatDetRow.holds Try.pinned (OpenSpec.ofChange fnExactMatDetSpec)

/-- ITS FALSE NEIGHBOUR: 'it returns false'. Refute it at one input. -/
def fnExactMatDetWrong : ChangeSpec := { name := "fnExactMatDet", fn := fun _ => fun
  | [d] => { results := [.lit (.bool false)], args := [d] }
  | _ => none }
def FnExactMatDetWrongFalsely : Prop := fnExactMatDetRow.holds Try.pinned (OpenSpec.ofChange fnExactMatDetWrong)

/-- 'laws.FnExactMatFilter': WHATEVER THE INPUT: true; the input reads as it did. -/
def fnExactMatFilterSpec : ChangeSpec := { name := "fnExactMatFilter", fn := fun _ => fun
  | [d1, d2] => { results := [.lit (.bool true)], args := [d1, d2] }
  | _ => none }
def fnExactMatFilterRow : OpenClaim := { program := "ytjigckagmgilbaa", sum := "a75bb246ba68e2a12395dec26dd162aadd0445171b2708b87bcc515acbc292a0", func := "loop.example/polarisedlight/laws.FnExactMatFilter", spec := "fnExactMatFilter", apart := false }
def FnExactMatFilterSaid : Prop := fnExactMatFilterRow.holds Try.pinned (OpenSpec.ofChange fnExactMatFilterSpec)

/-- ITS FALSE NEIGHBOUR: 'it returns false'. Refute it at one input. -/
def fnExactMatFilterWrong : ChangeSpec := { name := "fnExactMatFilter", fn := fun _ => fun
  | [d1, d2] => { results := [.lit (.bool false)], args := [d1, d2] }
  | _ => none }
def FnExactMatFilterWrongFalsely : Prop := fnExactMatFilterRow.holds Try.pinned (OpenSpec.ofChange fnExactMatFilterWrong)

/- THE SECOND FORM. 'bulk': how many values and letters a reading holds, each counted each time it is reached (what is shared counts as often as it is met; a slice's spare places count too). A statement '..UptoSaid' is the law's where the arguments, and the package variables that the reading takes, are together of bulk at most 1048576: NARROWER than '..Said'. Prove '..Said' where nothing that the law and all that it calls make is longer than what came in: it says more and counts as full. Else prove '..UptoSaid'. A law counts once. -/
mutual
def uptoBulk {H : Type} : DataW H → Nat
  | .lit (.string bytes) => bytes.length + 1
  | .lit _ => 1
  | .nil => 1
  | .ptr d => uptoBulk d + 1
  | .slice elems spare => uptoBulkAll elems + uptoBulkAll spare + 1
  | .agg parts => uptoBulkAll parts + 1
  | .iface _ d => uptoBulk d + 1
  | .map entries => uptoBulkEntries entries + 1
  | .held _ => 1
def uptoBulkAll {H : Type} : List (DataW H) → Nat
  | [] => 0
  | d :: r => uptoBulk d + uptoBulkAll r
def uptoBulkEntries {H : Type} : List (Lit × DataW H) → Nat
  | [] => 0
  | x :: r => uptoBulkEntry x + uptoBulkEntries r
def uptoBulkEntry {H : Type} : Lit × DataW H → Nat
  | (.string bytes, d) => bytes.length + uptoBulk d + 1
  | (_, d) => uptoBulk d + 1
 end
def uptoSmall : (H : Type) → List (DataW H) → Bool := fun _ ds => decide (uptoBulkAll ds ≤ 1048576)
def OpenSpec.upto (s : _root_.Go.ChangeSpec) : _root_.Go.OpenSpec := { _root_.Go.OpenSpec.ofChange s with cond := some uptoSmall }

/-- 'laws.FnExactMatValid', WHERE WHAT IT READS IS OF BULK AT MOST 1048576: true; the input reads as it did. -/
def fnExactMatValidUptoRow : OpenClaim := { program := "ytjigckagmgilbaa", sum := "a75bb246ba68e2a12395dec26dd162aadd0445171b2708b87bcc515acbc292a0", func := "loop.example/polarisedlight/laws.FnExactMatValid", spec := "fnExactMatValid", apart := false, narrowed := true }
def FnExactMatValidUptoSaid : Prop := fnExactMatValidUptoRow.holds Try.pinned (OpenSpec.upto fnExactMatValidSpec)

/-- 'laws.FnExactStokesValid', WHERE WHAT IT READS IS OF BULK AT MOST 1048576: true; the input reads as it did. -/
def fnExactStokesValidUptoRow : OpenClaim := { program := "ytjigckagmgilbaa", sum := "a75bb246ba68e2a12395dec26dd162aadd0445171b2708b87bcc515acbc292a0", func := "loop.example/polarisedlight/laws.FnExactStokesValid", spec := "fnExactStokesValid", apart := false, narrowed := true }
def FnExactStokesValidUptoSaid : Prop := fnExactStokesValidUptoRow.holds Try.pinned (OpenSpec.upto fnExactStokesValidSpec)

/-- 'laws.FnExactTableValid', WHERE WHAT IT READS IS OF BULK AT MOST 1048576: true; the input reads as it did. -/
def fnExactTableValidUptoRow : OpenClaim := { program := "ytjigckagmgilbaa", sum := "a75bb246ba68e2a12395dec26dd162aadd0445171b2708b87bcc515acbc292a0", func := "loop.example/polarisedlight/laws.FnExactTableValid", spec := "fnExactTableValid", apart := false, narrowed := true }
def FnExactTableValidUptoSaid : Prop := fnExactTableValidUptoRow.holds Try.pinned (OpenSpec.upto fnExactTableValidSpec)

/-- 'laws.FnExactStokesMirror', WHERE WHAT IT READS IS OF BULK AT MOST 1048576: true; the input reads as it did. -/
def fnExactStokesMirrorUptoRow : OpenClaim := { program := "ytjigckagmgilbaa", sum := "a75bb246ba68e2a12395dec26dd162aadd0445171b2708b87bcc515acbc292a0", func := "loop.example/polarisedlight/laws.FnExactStokesMirror", spec := "fnExactStokesMirror", apart := false, narrowed := true }
def FnExactStokesMirrorUptoSaid : Prop := fnExactStokesMirrorUptoRow.holds Try.pinned (OpenSpec.upto fnExactStokesMirrorSpec)

/-- 'laws.FnExactMatRotator', WHERE WHAT IT READS IS OF BULK AT MOST 1048576: true; the input reads as it did. -/
def fnExactMatRotatorUptoRow : OpenClaim := { program := "ytjigckagmgilbaa", sum := "a75bb246ba68e2a12395dec26dd162aadd0445171b2708b87bcc515acbc292a0", func := "loop.example/polarisedlight/laws.FnExactMatRotator", spec := "fnExactMatRotator", apart := false, narrowed := true }
def FnExactMatRotatorUptoSaid : Prop := fnExactMatRotatorUptoRow.holds Try.pinned (OpenSpec.upto fnExactMatRotatorSpec)

/-- 'laws.FnExactMatAdjoint', WHERE WHAT IT READS IS OF BULK AT MOST 1048576: true; the input reads as it did. -/
def fnExactMatAdjointUptoRow : OpenClaim := { program := "ytjigckagmgilbaa", sum := "a75bb246ba68e2a12395dec26dd162aadd0445171b2708b87bcc515acbc292a0", func := "loop.example/polarisedlight/laws.FnExactMatAdjoint", spec := "fnExactMatAdjoint", apart := false, narrowed := true }
def FnExactMatAdjointUptoSaid : Prop := fnExactMatAdjointUptoRow.holds Try.pinned (OpenSpec.upto fnExactMatAdjointSpec)

/-- 'laws.FnExactStokesAlike', WHERE WHAT IT READS IS OF BULK AT MOST 1048576: true; the input reads as it did. -/
def fnExactStokesAlikeUptoRow : OpenClaim := { program := "ytjigckagmgilbaa", sum := "a75bb246ba68e2a12395dec26dd162aadd0445171b2708b87bcc515acbc292a0", func := "loop.example/polarisedlight/laws.FnExactStokesAlike", spec := "fnExactStokesAlike", apart := false, narrowed := true }
def FnExactStokesAlikeUptoSaid : Prop := fnExactStokesAlikeUptoRow.holds Try.pinned (OpenSpec.upto fnExactStokesAlikeSpec)

/-- 'laws.FnExactMatDet', WHERE WHAT IT READS IS OF BULK AT MOST 1048576: true; the input reads as it did. -/
def fnExactMatDetUptoRow : OpenClaim := { program := "ytjigckagmgilbaa", sum := "a75bb246ba68e2a12395dec26dd162aadd0445171b2708b87bcc515acbc292a0", func := "loop.example/polarisedlight/laws.FnExactMatDet", spec := "fnExactMatDet", apart := false, narrowed := true }
def FnExactMatDetUptoSaid : Prop := fnExactMatDetUptoRow.holds Try.pinned (OpenSpec.upto fnExactMatDetSpec)

/-- 'laws.FnExactMatFilter', WHERE WHAT IT READS IS OF BULK AT MOST 1048576: true; the input reads as it did. -/
def fnExactMatFilterUptoRow : OpenClaim := { program := "ytjigckagmgilbaa", sum := "a75bb246ba68e2a12395dec26dd162aadd0445171b2708b87bcc515acbc292a0", func := "loop.example/polarisedlight/laws.FnExactMatFilter", spec := "fnExactMatFilter", apart := false, narrowed := true }
def FnExactMatFilterUptoSaid : Prop := fnExactMatFilterUptoRow.holds Try.pinned (OpenSpec.upto fnExactMatFilterSpec)

end Rows
end Go.Proofs.Ytjigckagmgilbaa
