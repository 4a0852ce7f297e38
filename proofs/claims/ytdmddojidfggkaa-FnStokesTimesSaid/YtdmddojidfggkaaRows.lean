/-
  No cell of these rows narrows 'for every input' (looked for: loops, veiled, ifaces, maps, wideKeys, modest, calm, conditions, laid).
  DERIVED. THE GIVEN ROWS OF THIS SEAT. 7 by the template 'for every input the law returns true; each argument reads behind the call as it read before'; 0 by the template 'total and deterministic' (their statements: YtdmddojidfggkaaTotals.lean).
  GIVEN WITH THE SEED: the statements are not yours to turn. If you find one false, say at which input.
  Laid BY PROGRAM, IN A SANDBOX (cutbox-rows.mjs): the forced cells as the released guide's own fill.sh prints them over the translation 68bea9d1cc5c8250… (all of the seat's roots in one cut). By AI agents, Wed Nov 11 2026. No macro, syntax, notation, axiom, sorry.
-/
import Derived.Test.YtdmddojidfggkaaChecked
import GoSem.Claim
import GoSem.ClaimJoined
import GoSem.ClaimMapViews
import Derived.JoinedTies
import Derived.KernelRfl
namespace Go.Proofs.Ytdmddojidfggkaa
/- THE CELL 'sum', in the pinned program and in every row, IS THE sha256 OF THE DUMP (.gsa) THAT YtdmddojidfggkaaProg.lean LOADS. Nothing in Lean hashes anything: it is a label: what it is worth is what the hold of that sum in a sandbox is worth. -/
noncomputable def Try.pinned : Pinned := { name := "ytdmddojidfggkaa", sum := "68bea9d1cc5c8250bee7b34f61325c1709d780636359a181ee650fd913064f7e", checked := Try.checked }
namespace Rows
def none {H : Type} : Left H := { results := [], args := [] }

/-- 'laws.FnStokesAlike': WHATEVER THE INPUT: true; the input reads as it did. -/
def fnStokesAlikeSpec : ChangeSpec := { name := "fnStokesAlike", fn := fun _ => fun
  | [d] => { results := [.lit (.bool true)], args := [d] }
  | _ => none }
def fnStokesAlikeRow : OpenClaim := { program := "ytdmddojidfggkaa", sum := "68bea9d1cc5c8250bee7b34f61325c1709d780636359a181ee650fd913064f7e", func := "loop.example/polarisedlight/laws.FnStokesAlike", spec := "fnStokesAlike", apart := false }
def FnStokesAlikeSaid : Prop := fnStokesAlikeRow.holds Try.pinned (OpenSpec.ofChange fnStokesAlikeSpec)

/-- ITS FALSE NEIGHBOUR: 'it returns false'. Refute it at one input. -/
def fnStokesAlikeWrong : ChangeSpec := { name := "fnStokesAlike", fn := fun _ => fun
  | [d] => { results := [.lit (.bool false)], args := [d] }
  | _ => none }
def FnStokesAlikeWrongFalsely : Prop := fnStokesAlikeRow.holds Try.pinned (OpenSpec.ofChange fnStokesAlikeWrong)

/-- 'laws.FnStokesMirror': WHATEVER THE INPUT: true; the input reads as it did. -/
def fnStokesMirrorSpec : ChangeSpec := { name := "fnStokesMirror", fn := fun _ => fun
  | [d] => { results := [.lit (.bool true)], args := [d] }
  | _ => none }
def fnStokesMirrorRow : OpenClaim := { program := "ytdmddojidfggkaa", sum := "68bea9d1cc5c8250bee7b34f61325c1709d780636359a181ee650fd913064f7e", func := "loop.example/polarisedlight/laws.FnStokesMirror", spec := "fnStokesMirror", apart := false }
def FnStokesMirrorSaid : Prop := fnStokesMirrorRow.holds Try.pinned (OpenSpec.ofChange fnStokesMirrorSpec)

/-- ITS FALSE NEIGHBOUR: 'it returns false'. Refute it at one input. -/
def fnStokesMirrorWrong : ChangeSpec := { name := "fnStokesMirror", fn := fun _ => fun
  | [d] => { results := [.lit (.bool false)], args := [d] }
  | _ => none }
def FnStokesMirrorWrongFalsely : Prop := fnStokesMirrorRow.holds Try.pinned (OpenSpec.ofChange fnStokesMirrorWrong)

/-- 'laws.FnStokes': WHATEVER THE INPUT: true; the input reads as it did. -/
def fnStokesSpec : ChangeSpec := { name := "fnStokes", fn := fun _ => fun
  | [d] => { results := [.lit (.bool true)], args := [d] }
  | _ => none }
def fnStokesRow : OpenClaim := { program := "ytdmddojidfggkaa", sum := "68bea9d1cc5c8250bee7b34f61325c1709d780636359a181ee650fd913064f7e", func := "loop.example/polarisedlight/laws.FnStokes", spec := "fnStokes", apart := false }
def FnStokesSaid : Prop := fnStokesRow.holds Try.pinned (OpenSpec.ofChange fnStokesSpec)

/-- ITS FALSE NEIGHBOUR: 'it returns false'. Refute it at one input. -/
def fnStokesWrong : ChangeSpec := { name := "fnStokes", fn := fun _ => fun
  | [d] => { results := [.lit (.bool false)], args := [d] }
  | _ => none }
def FnStokesWrongFalsely : Prop := fnStokesRow.holds Try.pinned (OpenSpec.ofChange fnStokesWrong)

/-- 'laws.FnSquares': WHATEVER THE INPUT: true; the input reads as it did. -/
def fnSquaresSpec : ChangeSpec := { name := "fnSquares", fn := fun _ => fun
  | [d] => { results := [.lit (.bool true)], args := [d] }
  | _ => none }
def fnSquaresRow : OpenClaim := { program := "ytdmddojidfggkaa", sum := "68bea9d1cc5c8250bee7b34f61325c1709d780636359a181ee650fd913064f7e", func := "loop.example/polarisedlight/laws.FnSquares", spec := "fnSquares", apart := false }
def FnSquaresSaid : Prop := fnSquaresRow.holds Try.pinned (OpenSpec.ofChange fnSquaresSpec)

/-- ITS FALSE NEIGHBOUR: 'it returns false'. Refute it at one input. -/
def fnSquaresWrong : ChangeSpec := { name := "fnSquares", fn := fun _ => fun
  | [d] => { results := [.lit (.bool false)], args := [d] }
  | _ => none }
def FnSquaresWrongFalsely : Prop := fnSquaresRow.holds Try.pinned (OpenSpec.ofChange fnSquaresWrong)

/-- 'laws.FnStokesAdd': WHATEVER THE INPUT: true; the input reads as it did. -/
def fnStokesAddSpec : ChangeSpec := { name := "fnStokesAdd", fn := fun _ => fun
  | [d] => { results := [.lit (.bool true)], args := [d] }
  | _ => none }
def fnStokesAddRow : OpenClaim := { program := "ytdmddojidfggkaa", sum := "68bea9d1cc5c8250bee7b34f61325c1709d780636359a181ee650fd913064f7e", func := "loop.example/polarisedlight/laws.FnStokesAdd", spec := "fnStokesAdd", apart := false }
def FnStokesAddSaid : Prop := fnStokesAddRow.holds Try.pinned (OpenSpec.ofChange fnStokesAddSpec)

/-- ITS FALSE NEIGHBOUR: 'it returns false'. Refute it at one input. -/
def fnStokesAddWrong : ChangeSpec := { name := "fnStokesAdd", fn := fun _ => fun
  | [d] => { results := [.lit (.bool false)], args := [d] }
  | _ => none }
def FnStokesAddWrongFalsely : Prop := fnStokesAddRow.holds Try.pinned (OpenSpec.ofChange fnStokesAddWrong)

/-- 'laws.FnStokesTimes': WHATEVER THE INPUT: true; the input reads as it did. -/
def fnStokesTimesSpec : ChangeSpec := { name := "fnStokesTimes", fn := fun _ => fun
  | [d] => { results := [.lit (.bool true)], args := [d] }
  | _ => none }
def fnStokesTimesRow : OpenClaim := { program := "ytdmddojidfggkaa", sum := "68bea9d1cc5c8250bee7b34f61325c1709d780636359a181ee650fd913064f7e", func := "loop.example/polarisedlight/laws.FnStokesTimes", spec := "fnStokesTimes", apart := false }
def FnStokesTimesSaid : Prop := fnStokesTimesRow.holds Try.pinned (OpenSpec.ofChange fnStokesTimesSpec)

/-- ITS FALSE NEIGHBOUR: 'it returns false'. Refute it at one input. -/
def fnStokesTimesWrong : ChangeSpec := { name := "fnStokesTimes", fn := fun _ => fun
  | [d] => { results := [.lit (.bool false)], args := [d] }
  | _ => none }
def FnStokesTimesWrongFalsely : Prop := fnStokesTimesRow.holds Try.pinned (OpenSpec.ofChange fnStokesTimesWrong)

/-- 'laws.FnLight': WHATEVER THE INPUT: true; the input reads as it did. -/
def fnLightSpec : ChangeSpec := { name := "fnLight", fn := fun _ => fun
  | [d] => { results := [.lit (.bool true)], args := [d] }
  | _ => none }
def fnLightRow : OpenClaim := { program := "ytdmddojidfggkaa", sum := "68bea9d1cc5c8250bee7b34f61325c1709d780636359a181ee650fd913064f7e", func := "loop.example/polarisedlight/laws.FnLight", spec := "fnLight", apart := false }
def FnLightSaid : Prop := fnLightRow.holds Try.pinned (OpenSpec.ofChange fnLightSpec)

/-- ITS FALSE NEIGHBOUR: 'it returns false'. Refute it at one input. -/
def fnLightWrong : ChangeSpec := { name := "fnLight", fn := fun _ => fun
  | [d] => { results := [.lit (.bool false)], args := [d] }
  | _ => none }
def FnLightWrongFalsely : Prop := fnLightRow.holds Try.pinned (OpenSpec.ofChange fnLightWrong)

/- THE SECOND FORM. 'bulk': how many values and letters a reading holds, each counted each time it is reached (what is shared counts as often as it is met; a slice's spare places count too). A statement '..UptoSaid' is the law's where the arguments, and the package variables that the reading takes, are together of bulk at most 1048576: NARROWER than '..Said'. Prove '..Said' where nothing that the law and all that it calls make is longer than what came in: it says more and counts as full. Else prove '..UptoSaid'. A law counts once. -/
mutual
def uptoBulk {H : Type} : DataW H → Nat
  | .lit (.string bytes) => bytes.length + 1
  | .lit _ => 1
  | .nil => 1
  | .ptr d => uptoBulk d + 1
  | .slice elems spare => uptoBulkAll elems + uptoBulkAll spare + 1
  | .agg parts => uptoBulkAll parts + 1
  | .iface _ d => uptoBulk d + 1
  | .map entries => uptoBulkEntries entries + 1
  | .held _ => 1
def uptoBulkAll {H : Type} : List (DataW H) → Nat
  | [] => 0
  | d :: r => uptoBulk d + uptoBulkAll r
def uptoBulkEntries {H : Type} : List (Lit × DataW H) → Nat
  | [] => 0
  | x :: r => uptoBulkEntry x + uptoBulkEntries r
def uptoBulkEntry {H : Type} : Lit × DataW H → Nat
  | (.string bytes, d) => bytes.length + uptoBulk d + 1
  | (_, d) => uptoBulk d + 1
 end
def uptoSmall : (H : Type) → List (DataW H) → Bool := fun _ ds => decide (uptoBulkAll ds ≤ 1048576)
def OpenSpec.upto (s : _root_.Go.ChangeSpec) : _root_.Go.OpenSpec := { _root_.Go.OpenSpec.ofChange s with cond := some uptoSmall }

/-- 'laws.FnStokesAlike', WHERE WHAT IT READS IS OF BULK AT MOST 1048576: true; the input reads as it did. -/
def fnStokesAlikeUptoRow : OpenClaim := { program := "ytdmddojidfggkaa", sum := "68bea9d1cc5c8250bee7b34f61325c1709d780636359a181ee650fd913064f7e", func := "loop.example/polarisedlight/laws.FnStokesAlike", spec := "fnStokesAlike", apart := false, narrowed := true }
def FnStokesAlikeUptoSaid : Prop := fnStokesAlikeUptoRow.holds Try.pinned (OpenSpec.upto fnStokesAlikeSpec)

/-- 'laws.FnStokesMirror', WHERE WHAT IT READS IS OF BULK AT MOST 1048576: true; the input reads as it did. -/
def fnStokesMirrorUptoRow : OpenClaim := { program := "ytdmddojidfggkaa", sum := "68bea9d1cc5c8250bee7b34f61325c1709d780636359a181ee650fd913064f7e", func := "loop.example/polarisedlight/laws.FnStokesMirror", spec := "fnStokesMirror", apart := false, narrowed := true }
def FnStokesMirrorUptoSaid : Prop := fnStokesMirrorUptoRow.holds Try.pinned (OpenSpec.upto fnStokesMirrorSpec)

/-- 'laws.FnStokes', WHERE WHAT IT READS IS OF BULK AT MOST 1048576: true; the input reads as it did. -/
def fnStokesUptoRow : OpenClaim := { program := "ytdmddojidfggkaa", sum := "68bea9d1cc5c8250bee7b34f61325c1709d780636359a181ee650fd913064f7e", func := "loop.example/polarisedlight/laws.FnStokes", spec := "fnStokes", apart := false, narrowed := true }
def FnStokesUptoSaid : Prop := fnStokesUptoRow.holds Try.pinned (OpenSpec.upto fnStokesSpec)

/-- 'laws.FnSquares', WHERE WHAT IT READS IS OF BULK AT MOST 1048576: true; the input reads as it did. -/
def fnSquaresUptoRow : OpenClaim := { program := "ytdmddojidfggkaa", sum := "68bea9d1cc5c8250bee7b34f61325c1709d780636359a181ee650fd913064f7e", func := "loop.example/polarisedlight/laws.FnSquares", spec := "fnSquares", apart := false, narrowed := true }
def FnSquaresUptoSaid : Prop := fnSquaresUptoRow.holds Try.pinned (OpenSpec.upto fnSquaresSpec)

/-- 'laws.FnStokesAdd', WHERE WHAT IT READS IS OF BULK AT MOST 1048576: true; the input reads as it did. -/
def fnStokesAddUptoRow : OpenClaim := { program := "ytdmddojidfggkaa", sum := "68bea9d1cc5c8250bee7b34f61325c1709d780636359a181ee650fd913064f7e", func := "loop.example/polarisedlight/laws.FnStokesAdd", spec := "fnStokesAdd", apart := false, narrowed := true }
def FnStokesAddUptoSaid : Prop := fnStokesAddUptoRow.holds Try.pinned (OpenSpec.upto fnStokesAddSpec)

/-- 'laws.FnStokesTimes', WHERE WHAT IT READS IS OF BULK AT MOST 1048576: true; the input reads as it did. -/
def fnStokesTimesUptoRow : OpenClaim := { program := "ytdmddojidfggkaa", sum := "68bea9d1cc5c8250bee7b34f61325c1709d780636359a181ee650fd913064f7e", func := "loop.example/polarisedlight/laws.FnStokesTimes", spec := "fnStokesTimes", apart := false, narrowed := true }
def FnStokesTimesUptoSaid : Prop := fnStokesTimesUptoRow.holds Try.pinned (OpenSpec.upto fnStokesTimesSpec)

/-- 'laws.FnLight', WHERE WHAT IT READS IS OF BULK AT MOST 1048576: true; the input reads as it did. -/
def fnLightUptoRow : OpenClaim := { program := "ytdmddojidfggkaa", sum := "68bea9d1cc5c8250bee7b34f61325c1709d780636359a181ee650fd913064f7e", func := "loop.example/polarisedlight/laws.FnLight", spec := "fnLight", apart := false, narrowed := true }
def FnLightUptoSaid : Prop := fnLightUptoRow.holds Try.pinned (OpenSpec.upto fnLightSpec)

end Rows
end Go.Proofs.Ytdmddojidfggkaa
