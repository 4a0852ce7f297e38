/-
  No cell of these rows narrows 'for every input' (looked for: loops, veiled, ifaces, maps, wideKeys, modest, calm, conditions, laid).
  DERIVED. THE GIVEN ROWS OF THIS SEAT. 7 by the template 'for every input the law returns true; each argument reads behind the call as it read before'; 0 by the template 'total and deterministic' (their statements: YtlmpbijhidnekaaTotals.lean).
  GIVEN WITH THE SEED: the statements are not yours to turn. If you find one false, say at which input.
  Laid BY PROGRAM, IN A SANDBOX (cutbox-rows.mjs): the forced cells as the released guide's own fill.sh prints them over the translation fb10bbf29803ba5a… (all of the seat's roots in one cut). By AI agents, Wed Nov 11 2026. No macro, syntax, notation, axiom, sorry.
-/
import Derived.Test.YtlmpbijhidnekaaChecked
import GoSem.Claim
import GoSem.ClaimJoined
import GoSem.ClaimMapViews
import Derived.JoinedTies
import Derived.KernelRfl
namespace Go.Proofs.Ytlmpbijhidnekaa
/- THE CELL 'sum', in the pinned program and in every row, IS THE sha256 OF THE DUMP (.gsa) THAT YtlmpbijhidnekaaProg.lean LOADS. Nothing in Lean hashes anything: it is a label: what it is worth is what the hold of that sum in a sandbox is worth. -/
noncomputable def Try.pinned : Pinned := { name := "ytlmpbijhidnekaa", sum := "fb10bbf29803ba5a1b76bc27207218eab53eb3214157757955137c63e38f4f2a", checked := Try.checked }
namespace Rows
def none {H : Type} : Left H := { results := [], args := [] }

/-- 'laws.FnFits': WHATEVER THE INPUT: true; the input reads as it did. -/
def fnFitsSpec : ChangeSpec := { name := "fnFits", fn := fun _ => fun
  | [d] => { results := [.lit (.bool true)], args := [d] }
  | _ => none }
def fnFitsRow : OpenClaim := { program := "ytlmpbijhidnekaa", sum := "fb10bbf29803ba5a1b76bc27207218eab53eb3214157757955137c63e38f4f2a", func := "loop.example/polarisedlight/laws.FnFits", spec := "fnFits", apart := false }
def FnFitsSaid : Prop := fnFitsRow.holds Try.pinned (OpenSpec.ofChange fnFitsSpec)

/-- ITS FALSE NEIGHBOUR: 'it returns false'. Refute it at one input. -/
def fnFitsWrong : ChangeSpec := { name := "fnFits", fn := fun _ => fun
  | [d] => { results := [.lit (.bool false)], args := [d] }
  | _ => none }
def FnFitsWrongFalsely : Prop := fnFitsRow.holds Try.pinned (OpenSpec.ofChange fnFitsWrong)

/-- 'laws.FnJonesAdd': WHATEVER THE INPUT: true; the input reads as it did. -/
def fnJonesAddSpec : ChangeSpec := { name := "fnJonesAdd", fn := fun _ => fun
  | [d] => { results := [.lit (.bool true)], args := [d] }
  | _ => none }
def fnJonesAddRow : OpenClaim := { program := "ytlmpbijhidnekaa", sum := "fb10bbf29803ba5a1b76bc27207218eab53eb3214157757955137c63e38f4f2a", func := "loop.example/polarisedlight/laws.FnJonesAdd", spec := "fnJonesAdd", apart := false }
def FnJonesAddSaid : Prop := fnJonesAddRow.holds Try.pinned (OpenSpec.ofChange fnJonesAddSpec)

/-- ITS FALSE NEIGHBOUR: 'it returns false'. Refute it at one input. -/
def fnJonesAddWrong : ChangeSpec := { name := "fnJonesAdd", fn := fun _ => fun
  | [d] => { results := [.lit (.bool false)], args := [d] }
  | _ => none }
def FnJonesAddWrongFalsely : Prop := fnJonesAddRow.holds Try.pinned (OpenSpec.ofChange fnJonesAddWrong)

/-- 'laws.FnCross': WHATEVER THE INPUT: true; the input reads as it did. -/
def fnCrossSpec : ChangeSpec := { name := "fnCross", fn := fun _ => fun
  | [d] => { results := [.lit (.bool true)], args := [d] }
  | _ => none }
def fnCrossRow : OpenClaim := { program := "ytlmpbijhidnekaa", sum := "fb10bbf29803ba5a1b76bc27207218eab53eb3214157757955137c63e38f4f2a", func := "loop.example/polarisedlight/laws.FnCross", spec := "fnCross", apart := false }
def FnCrossSaid : Prop := fnCrossRow.holds Try.pinned (OpenSpec.ofChange fnCrossSpec)

/-- ITS FALSE NEIGHBOUR: 'it returns false'. Refute it at one input. -/
def fnCrossWrong : ChangeSpec := { name := "fnCross", fn := fun _ => fun
  | [d] => { results := [.lit (.bool false)], args := [d] }
  | _ => none }
def FnCrossWrongFalsely : Prop := fnCrossRow.holds Try.pinned (OpenSpec.ofChange fnCrossWrong)

/-- 'laws.FnJonesPower': WHATEVER THE INPUT: true; the input reads as it did. -/
def fnJonesPowerSpec : ChangeSpec := { name := "fnJonesPower", fn := fun _ => fun
  | [d] => { results := [.lit (.bool true)], args := [d] }
  | _ => none }
def fnJonesPowerRow : OpenClaim := { program := "ytlmpbijhidnekaa", sum := "fb10bbf29803ba5a1b76bc27207218eab53eb3214157757955137c63e38f4f2a", func := "loop.example/polarisedlight/laws.FnJonesPower", spec := "fnJonesPower", apart := false }
def FnJonesPowerSaid : Prop := fnJonesPowerRow.holds Try.pinned (OpenSpec.ofChange fnJonesPowerSpec)

/-- ITS FALSE NEIGHBOUR: 'it returns false'. Refute it at one input. -/
def fnJonesPowerWrong : ChangeSpec := { name := "fnJonesPower", fn := fun _ => fun
  | [d] => { results := [.lit (.bool false)], args := [d] }
  | _ => none }
def FnJonesPowerWrongFalsely : Prop := fnJonesPowerRow.holds Try.pinned (OpenSpec.ofChange fnJonesPowerWrong)

/-- 'laws.FnInner': WHATEVER THE INPUT: true; the input reads as it did. -/
def fnInnerSpec : ChangeSpec := { name := "fnInner", fn := fun _ => fun
  | [d] => { results := [.lit (.bool true)], args := [d] }
  | _ => none }
def fnInnerRow : OpenClaim := { program := "ytlmpbijhidnekaa", sum := "fb10bbf29803ba5a1b76bc27207218eab53eb3214157757955137c63e38f4f2a", func := "loop.example/polarisedlight/laws.FnInner", spec := "fnInner", apart := false }
def FnInnerSaid : Prop := fnInnerRow.holds Try.pinned (OpenSpec.ofChange fnInnerSpec)

/-- ITS FALSE NEIGHBOUR: 'it returns false'. Refute it at one input. -/
def fnInnerWrong : ChangeSpec := { name := "fnInner", fn := fun _ => fun
  | [d] => { results := [.lit (.bool false)], args := [d] }
  | _ => none }
def FnInnerWrongFalsely : Prop := fnInnerRow.holds Try.pinned (OpenSpec.ofChange fnInnerWrong)

/-- 'laws.FnJonesMirror': WHATEVER THE INPUT: true; the input reads as it did. -/
def fnJonesMirrorSpec : ChangeSpec := { name := "fnJonesMirror", fn := fun _ => fun
  | [d] => { results := [.lit (.bool true)], args := [d] }
  | _ => none }
def fnJonesMirrorRow : OpenClaim := { program := "ytlmpbijhidnekaa", sum := "fb10bbf29803ba5a1b76bc27207218eab53eb3214157757955137c63e38f4f2a", func := "loop.example/polarisedlight/laws.FnJonesMirror", spec := "fnJonesMirror", apart := false }
def FnJonesMirrorSaid : Prop := fnJonesMirrorRow.holds Try.pinned (OpenSpec.ofChange fnJonesMirrorSpec)

/-- ITS FALSE NEIGHBOUR: 'it returns false'. Refute it at one input. -/
def fnJonesMirrorWrong : ChangeSpec := { name := "fnJonesMirror", fn := fun _ => fun
  | [d] => { results := [.lit (.bool false)], args := [d] }
  | _ => none }
def FnJonesMirrorWrongFalsely : Prop := fnJonesMirrorRow.holds Try.pinned (OpenSpec.ofChange fnJonesMirrorWrong)

/-- 'laws.FnStokesOf': WHATEVER THE INPUT: true; the input reads as it did. -/
def fnStokesOfSpec : ChangeSpec := { name := "fnStokesOf", fn := fun _ => fun
  | [d] => { results := [.lit (.bool true)], args := [d] }
  | _ => none }
def fnStokesOfRow : OpenClaim := { program := "ytlmpbijhidnekaa", sum := "fb10bbf29803ba5a1b76bc27207218eab53eb3214157757955137c63e38f4f2a", func := "loop.example/polarisedlight/laws.FnStokesOf", spec := "fnStokesOf", apart := false }
def FnStokesOfSaid : Prop := fnStokesOfRow.holds Try.pinned (OpenSpec.ofChange fnStokesOfSpec)

/-- ITS FALSE NEIGHBOUR: 'it returns false'. Refute it at one input. -/
def fnStokesOfWrong : ChangeSpec := { name := "fnStokesOf", fn := fun _ => fun
  | [d] => { results := [.lit (.bool false)], args := [d] }
  | _ => none }
def FnStokesOfWrongFalsely : Prop := fnStokesOfRow.holds Try.pinned (OpenSpec.ofChange fnStokesOfWrong)

/- THE SECOND FORM. 'bulk': how many values and letters a reading holds, each counted each time it is reached (what is shared counts as often as it is met; a slice's spare places count too). A statement '..UptoSaid' is the law's where the arguments, and the package variables that the reading takes, are together of bulk at most 1048576: NARROWER than '..Said'. Prove '..Said' where nothing that the law and all that it calls make is longer than what came in: it says more and counts as full. Else prove '..UptoSaid'. A law counts once. -/
mutual
def uptoBulk {H : Type} : DataW H → Nat
  | .lit (.string bytes) => bytes.length + 1
  | .lit _ => 1
  | .nil => 1
  | .ptr d => uptoBulk d + 1
  | .slice elems spare => uptoBulkAll elems + uptoBulkAll spare + 1
  | .agg parts => uptoBulkAll parts + 1
  | .iface _ d => uptoBulk d + 1
  | .map entries => uptoBulkEntries entries + 1
  | .held _ => 1
def uptoBulkAll {H : Type} : List (DataW H) → Nat
  | [] => 0
  | d :: r => uptoBulk d + uptoBulkAll r
def uptoBulkEntries {H : Type} : List (Lit × DataW H) → Nat
  | [] => 0
  | x :: r => uptoBulkEntry x + uptoBulkEntries r
def uptoBulkEntry {H : Type} : Lit × DataW H → Nat
  | (.string bytes, d) => bytes.length + uptoBulk d + 1
  | (_, d) => uptoBulk d + 1
 end
def uptoSmall : (H : Type) → List (DataW H) → Bool := fun _ ds => decide (uptoBulkAll ds ≤ 1048576)
def OpenSpec.upto (s : _root_.Go.ChangeSpec) : _root_.Go.OpenSpec := { _root_.Go.OpenSpec.ofChange s with cond := some uptoSmall }

/-- 'laws.FnFits', WHERE WHAT IT READS IS OF BULK AT MOST 1048576: true; the input reads as it did. -/
def fnFitsUptoRow : OpenClaim := { program := "ytlmpbijhidnekaa", sum := "fb10bbf29803ba5a1b76bc27207218eab53eb3214157757955137c63e38f4f2a", func := "loop.example/polarisedlight/laws.FnFits", spec := "fnFits", apart := false, narrowed := true }
def FnFitsUptoSaid : Prop := fnFitsUptoRow.holds Try.pinned (OpenSpec.upto fnFitsSpec)

/-- 'laws.FnJonesAdd', WHERE WHAT IT READS IS OF BULK AT MOST 1048576: true; the input reads as it did. -/
def fnJonesAddUptoRow : OpenClaim := { program := "ytlmpbijhidnekaa", sum := "fb10bbf29803ba5a1b76bc27207218eab53eb3214157757955137c63e38f4f2a", func := "loop.example/polarisedlight/laws.FnJonesAdd", spec := "fnJonesAdd", apart := false, narrowed := true }
def FnJonesAddUptoSaid : Prop := fnJonesAddUptoRow.holds Try.pinned (OpenSpec.upto fnJonesAddSpec)

/-- 'laws.FnCross', WHERE WHAT IT READS IS OF BULK AT MOST 1048576: true; the input reads as it did. -/
def fnCrossUptoRow : OpenClaim := { program := "ytlmpbijhidnekaa", sum := "fb10bbf29803ba5a1b76bc27207218eab53eb3214157757955137c63e38f4f2a", func := "loop.example/polarisedlight/laws.FnCross", spec := "fnCross", apart := false, narrowed := true }
def FnCrossUptoSaid : Prop := fnCrossUptoRow.holds Try.pinned (OpenSpec.upto fnCrossSpec)

/-- 'laws.FnJonesPower', WHERE WHAT IT READS IS OF BULK AT MOST 1048576: true; the input reads as it did. -/
def fnJonesPowerUptoRow : OpenClaim := { program := "ytlmpbijhidnekaa", sum := "fb10bbf29803ba5a1b76bc27207218eab53eb3214157757955137c63e38f4f2a", func := "loop.example/polarisedlight/laws.FnJonesPower", spec := "fnJonesPower", apart := false, narrowed := true }
def FnJonesPowerUptoSaid : Prop := fnJonesPowerUptoRow.holds Try.pinned (OpenSpec.upto fnJonesPowerSpec)

/-- 'laws.FnInner', WHERE WHAT IT READS IS OF BULK AT MOST 1048576: true; the input reads as it did. -/
def fnInnerUptoRow : OpenClaim := { program := "ytlmpbijhidnekaa", sum := "fb10bbf29803ba5a1b76bc27207218eab53eb3214157757955137c63e38f4f2a", func := "loop.example/polarisedlight/laws.FnInner", spec := "fnInner", apart := false, narrowed := true }
def FnInnerUptoSaid : Prop := fnInnerUptoRow.holds Try.pinned (OpenSpec.upto fnInnerSpec)

/-- 'laws.FnJonesMirror', WHERE WHAT IT READS IS OF BULK AT MOST 1048576: true; the input reads as it did. -/
def fnJonesMirrorUptoRow : OpenClaim := { program := "ytlmpbijhidnekaa", sum := "fb10bbf29803ba5a1b76bc27207218eab53eb3214157757955137c63e38f4f2a", func := "loop.example/polarisedlight/laws.FnJonesMirror", spec := "fnJonesMirror", apart := false, narrowed := true }
def FnJonesMirrorUptoSaid : Prop := fnJonesMirrorUptoRow.holds Try.pinned (OpenSpec.upto fnJonesMirrorSpec)

/-- 'laws.FnStokesOf', WHERE WHAT IT READS IS OF BULK AT MOST 1048576: true; the input reads as it did. -/
def fnStokesOfUptoRow : OpenClaim := { program := "ytlmpbijhidnekaa", sum := "fb10bbf29803ba5a1b76bc27207218eab53eb3214157757955137c63e38f4f2a", func := "loop.example/polarisedlight/laws.FnStokesOf", spec := "fnStokesOf", apart := false, narrowed := true }
def FnStokesOfUptoSaid : Prop := fnStokesOfUptoRow.holds Try.pinned (OpenSpec.upto fnStokesOfSpec)

end Rows
end Go.Proofs.Ytlmpbijhidnekaa
