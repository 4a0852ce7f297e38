/-
  No cell of these rows narrows 'for every input' (looked for: loops, veiled, ifaces, maps, wideKeys, modest, calm, conditions, laid).
  DERIVED. THE GIVEN ROWS OF THIS SEAT. 4 by the template 'for every input the law returns true; each argument reads behind the call as it read before'; 0 by the template 'total and deterministic' (their statements: YtamdjgehmmogjaaTotals.lean).
  GIVEN WITH THE SEED: the statements are not yours to turn. If you find one false, say at which input.
  Laid BY PROGRAM, IN A SANDBOX (cutbox-rows.mjs): the forced cells as the released guide's own fill.sh prints them over the translation 1476e5cd55f9a9be… (all of the seat's roots in one cut). By AI agents, Wed Nov 11 2026. No macro, syntax, notation, axiom, sorry.
-/
import Derived.Test.YtamdjgehmmogjaaChecked
import GoSem.Claim
import GoSem.ClaimJoined
import GoSem.ClaimMapViews
import Derived.JoinedTies
import Derived.KernelRfl
namespace Go.Proofs.Ytamdjgehmmogjaa
/- THE CELL 'sum', in the pinned program and in every row, IS THE sha256 OF THE DUMP (.gsa) THAT YtamdjgehmmogjaaProg.lean LOADS. Nothing in Lean hashes anything: it is a label: what it is worth is what the hold of that sum in a sandbox is worth. -/
noncomputable def Try.pinned : Pinned := { name := "ytamdjgehmmogjaa", sum := "1476e5cd55f9a9be880147fbb61ee566e6ba5e0323dfac381bfbeced5736f18e", checked := Try.checked }
namespace Rows
def none {H : Type} : Left H := { results := [], args := [] }

/-- 'laws.FnCross': WHATEVER THE INPUT: true; the input reads as it did. -/
def fnCrossSpec : ChangeSpec := { name := "fnCross", fn := fun _ => fun
  | [d] => { results := [.lit (.bool true)], args := [d] }
  | _ => none }
def fnCrossRow : OpenClaim := { program := "ytamdjgehmmogjaa", sum := "1476e5cd55f9a9be880147fbb61ee566e6ba5e0323dfac381bfbeced5736f18e", func := "loop.example/polarisedlight/laws.FnCross", spec := "fnCross", apart := false }
def FnCrossSaid : Prop := fnCrossRow.holds Try.pinned (OpenSpec.ofChange fnCrossSpec)

/-- ITS FALSE NEIGHBOUR: 'it returns false'. Refute it at one input. -/
def fnCrossWrong : ChangeSpec := { name := "fnCross", fn := fun _ => fun
  | [d] => { results := [.lit (.bool false)], args := [d] }
  | _ => none }
def FnCrossWrongFalsely : Prop := fnCrossRow.holds Try.pinned (OpenSpec.ofChange fnCrossWrong)

/-- 'laws.FnExactStokesAlike': WHATEVER THE INPUT: true; the input reads as it did. -/
def fnExactStokesAlikeSpec : ChangeSpec := { name := "fnExactStokesAlike", fn := fun _ => fun
  | [d1, d2] => { results := [.lit (.bool true)], args := [d1, d2] }
  | _ => none }
def fnExactStokesAlikeRow : OpenClaim := { program := "ytamdjgehmmogjaa", sum := "1476e5cd55f9a9be880147fbb61ee566e6ba5e0323dfac381bfbeced5736f18e", func := "loop.example/polarisedlight/laws.FnExactStokesAlike", spec := "fnExactStokesAlike", apart := false }
def FnExactStokesAlikeSaid : Prop := fnExactStokesAlikeRow.holds Try.pinned (OpenSpec.ofChange fnExactStokesAlikeSpec)

/-- ITS FALSE NEIGHBOUR: 'it returns false'. Refute it at one input. -/
def fnExactStokesAlikeWrong : ChangeSpec := { name := "fnExactStokesAlike", fn := fun _ => fun
  | [d1, d2] => { results := [.lit (.bool false)], args := [d1, d2] }
  | _ => none }
def FnExactStokesAlikeWrongFalsely : Prop := fnExactStokesAlikeRow.holds Try.pinned (OpenSpec.ofChange fnExactStokesAlikeWrong)

/-- 'laws.FnFits': WHATEVER THE INPUT: true; the input reads as it did. -/
def fnFitsSpec : ChangeSpec := { name := "fnFits", fn := fun _ => fun
  | [d] => { results := [.lit (.bool true)], args := [d] }
  | _ => none }
def fnFitsRow : OpenClaim := { program := "ytamdjgehmmogjaa", sum := "1476e5cd55f9a9be880147fbb61ee566e6ba5e0323dfac381bfbeced5736f18e", func := "loop.example/polarisedlight/laws.FnFits", spec := "fnFits", apart := false }
def FnFitsSaid : Prop := fnFitsRow.holds Try.pinned (OpenSpec.ofChange fnFitsSpec)

/-- ITS FALSE NEIGHBOUR: 'it returns false'. Refute it at one input. -/
def fnFitsWrong : ChangeSpec := { name := "fnFits", fn := fun _ => fun
  | [d] => { results := [.lit (.bool false)], args := [d] }
  | _ => none }
def FnFitsWrongFalsely : Prop := fnFitsRow.holds Try.pinned (OpenSpec.ofChange fnFitsWrong)

/-- 'laws.FnStokesAlike': WHATEVER THE INPUT: true; the input reads as it did. -/
def fnStokesAlikeSpec : ChangeSpec := { name := "fnStokesAlike", fn := fun _ => fun
  | [d] => { results := [.lit (.bool true)], args := [d] }
  | _ => none }
def fnStokesAlikeRow : OpenClaim := { program := "ytamdjgehmmogjaa", sum := "1476e5cd55f9a9be880147fbb61ee566e6ba5e0323dfac381bfbeced5736f18e", func := "loop.example/polarisedlight/laws.FnStokesAlike", spec := "fnStokesAlike", apart := false }
def FnStokesAlikeSaid : Prop := fnStokesAlikeRow.holds Try.pinned (OpenSpec.ofChange fnStokesAlikeSpec)

/-- ITS FALSE NEIGHBOUR: 'it returns false'. Refute it at one input. -/
def fnStokesAlikeWrong : ChangeSpec := { name := "fnStokesAlike", fn := fun _ => fun
  | [d] => { results := [.lit (.bool false)], args := [d] }
  | _ => none }
def FnStokesAlikeWrongFalsely : Prop := fnStokesAlikeRow.holds Try.pinned (OpenSpec.ofChange fnStokesAlikeWrong)

/- THE SECOND FORM. 'bulk': how many values and letters a reading holds, each counted each time it is reached (what is shared counts as often as it is met; a slice's spare places count too). A statement '..UptoSaid' is the law's where the arguments, and the package variables that the reading takes, are together of bulk at most 1048576: NARROWER than '..Said'. Prove '..Said' where nothing that the law and all that it calls make is longer than what came in: it says more and counts as full. Else prove '..UptoSaid'. A law counts once. -/
mutual
def uptoBulk {H : Type} : DataW H → Nat
  | .lit (.string bytes) => bytes.length + 1
  | .lit _ => 1
  | .nil => 1
  | .ptr d => uptoBulk d + 1
  | .slice elems spare => uptoBulkAll elems + uptoBulkAll spare + 1
  | .agg parts => uptoBulkAll parts + 1
  | .iface _ d => uptoBulk d + 1
  | .map entries => uptoBulkEntries entries + 1
  | .held _ => 1
def uptoBulkAll {H : Type} : List (DataW H) → Nat
  | [] => 0
  | d :: r => uptoBulk d + uptoBulkAll r
def uptoBulkEntries {H : Type} : List (Lit × DataW H) → Nat
  | [] => 0
  | x :: r => uptoBulkEntry x + uptoBulkEntries r
def uptoBulkEntry {H : Type} : Lit × DataW H → Nat
  | (.string bytes, d) => bytes.length + uptoBulk d + 1
  | (_, d) => uptoBulk d + 1
 end
def uptoSmall : (H : Type) → List (DataW H) → Bool := fun _ ds => decide (uptoBulkAll ds ≤ 1048576)
def OpenSpec.upto (s : _root_.Go.ChangeSpec) : _root_.Go.OpenSpec := { _root_.Go.OpenSpec.ofChange s with cond := some uptoSmall }

/-- 'laws.FnCross', WHERE WHAT IT READS IS OF BULK AT MOST 1048576: true; the input reads as it did. -/
def fnCrossUptoRow : OpenClaim := { program := "ytamdjgehmmogjaa", sum := "1476e5cd55f9a9be880147fbb61ee566e6ba5e0323dfac381bfbeced5736f18e", func := "loop.example/polarisedlight/laws.FnCross", spec := "fnCross", apart := false, narrowed := true }
def FnCrossUptoSaid : Prop := fnCrossUptoRow.holds Try.pinned (OpenSpec.upto fnCrossSpec)

/-- 'laws.FnExactStokesAlike', WHERE WHAT IT READS IS OF BULK AT MOST 1048576: true; the input reads as it did. -/
def fnExactStokesAlikeUptoRow : OpenClaim := { program := "ytamdjgehmmogjaa", sum := "1476e5cd55f9a9be880147fbb61ee566e6ba5e0323dfac381bfbeced5736f18e", func := "loop.example/polarisedlight/laws.FnExactStokesAlike", spec := "fnExactStokesAlike", apart := false, narrowed := true }
def FnExactStokesAlikeUptoSaid : Prop := fnExactStokesAlikeUptoRow.holds Try.pinned (OpenSpec.upto fnExactStokesAlikeSpec)

/-- 'laws.FnFits', WHERE WHAT IT READS IS OF BULK AT MOST 1048576: true; the input reads as it did. -/
def fnFitsUptoRow : OpenClaim := { program := "ytamdjgehmmogjaa", sum := "1476e5cd55f9a9be880147fbb61ee566e6ba5e0323dfac381bfbeced5736f18e", func := "loop.example/polarisedlight/laws.FnFits", spec := "fnFits", apart := false, narrowed := true }
def FnFitsUptoSaid : Prop := fnFitsUptoRow.holds Try.pinned (OpenSpec.upto fnFitsSpec)

/-- 'laws.FnStokesAlike', WHERE WHAT IT READS IS OF BULK AT MOST 1048576: true; the input reads as it did. -/
def fnStokesAlikeUptoRow : OpenClaim := { program := "ytamdjgehmmogjaa", sum := "1476e5cd55f9a9be880147fbb61ee566e6ba5e0323dfac381bfbeced5736f18e", func := "loop.example/polarisedlight/laws.FnStokesAlike", spec := "fnStokesAlike", apart := false, narrowed := true }
def FnStokesAlikeUptoSaid : Prop := fnStokesAlikeUptoRow.holds Try.pinned (OpenSpec.upto fnStokesAlikeSpec)

end Rows
end Go.Proofs.Ytamdjgehmmogjaa
