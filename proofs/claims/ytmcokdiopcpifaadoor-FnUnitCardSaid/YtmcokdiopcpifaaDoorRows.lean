/-
  NARROWER THAN 'FOR EVERY INPUT', by the rows' own cells (each row's printed sentence says how): FnExactTableUnit: laid · FnExactTableFade: laid · FnExactMatAlike: laid · FnExactStokesVector: laid · FnJonesTimes: laid · FnJonesAlike: laid · FnVector: laid · FnPure: laid · FnUnit: laid · FnPlate: laid · FnScale: laid · FnMatAlike: laid.
  DERIVED. THE GIVEN ROWS OF THIS SEAT. 12 by the template 'for every input the law returns true; each argument reads behind the call as it read before'; 0 by the template 'total and deterministic' (their statements: YtmcokdiopcpifaaDoorTotals.lean).
  GIVEN WITH THE SEED: the statements are not yours to turn. If you find one false, say at which input.
  Laid BY PROGRAM, IN A SANDBOX (cutbox-rows.mjs): the forced cells as the released guide's own fill.sh prints them over the translation a6b7f79527210aa3… (all of the seat's roots in one cut). By AI agents, Wed Nov 11 2026. No macro, syntax, notation, axiom, sorry.
-/
import Derived.Test.YtmcokdiopcpifaaDoorChecked
import GoSem.Claim
import GoSem.ClaimJoined
import GoSem.ClaimMapViews
import Derived.JoinedTies
import Derived.KernelRfl
namespace Go.Proofs.YtmcokdiopcpifaaDoor
/- THE CELL 'sum', in the pinned program and in every row, IS THE sha256 OF THE DUMP (.gsa) THAT YtmcokdiopcpifaaDoorProg.lean LOADS. Nothing in Lean hashes anything: it is a label: what it is worth is what the hold of that sum in a sandbox is worth. -/
noncomputable def Tryd.pinned : Pinned := { name := "ytmcokdiopcpifaadoor", sum := "a6b7f79527210aa3fab190e2f3dbbb7c9591c0d222b50b404bee2578c41061f5", checked := Tryd.checked }
namespace Rows
def none {H : Type} : Left H := { results := [], args := [] }

/- WHAT THE LISTED PACKAGE-LEVEL VARIABLES READ AS WHEN THE CALL BEGINS. Each datum BY PROGRAM (the guide's laid-datum.mjs) off the statement by which the dump's own 'gosem.cut.vars' lays the variable. In a bare row this is a premise. The card (YtmcokdiopcpifaaDoorCards.lean) ties it to the program's text. -/
def laid_loop_example_polarisedlight_impl_zero {H : Type} : DataW H := .agg [.lit (.int .i64 0), .lit (.int .i64 0), .lit (.int .i64 1)]
def laid_loop_example_polarisedlight_impl_one {H : Type} : DataW H := .agg [.lit (.int .i64 1), .lit (.int .i64 0), .lit (.int .i64 1)]
def laid_loop_example_polarisedlight_impl_unit {H : Type} : DataW H := .agg [.lit (.int .i64 0), .lit (.int .i64 1), .lit (.int .i64 1)]
def laid_loop_example_polarisedlight_impl_turns {H : Type} : DataW H := .agg [.agg [.lit (.int .i64 1), .lit (.int .i64 0), .lit (.int .i64 1)], .agg [.lit (.int .i64 0), .lit (.int .i64 1), .lit (.int .i64 1)], .agg [.lit (.int .i64 (-1)), .lit (.int .i64 0), .lit (.int .i64 1)], .agg [.lit (.int .i64 0), .lit (.int .i64 (-1)), .lit (.int .i64 1)]]
def laid_loop_example_polarisedlight_impl_same {H : Type} : DataW H := .agg [.agg [.agg [.lit (.int .i64 1), .lit (.int .i64 0), .lit (.int .i64 1)], .agg [.lit (.int .i64 0), .lit (.int .i64 0), .lit (.int .i64 1)], .agg [.lit (.int .i64 0), .lit (.int .i64 0), .lit (.int .i64 1)], .agg [.lit (.int .i64 1), .lit (.int .i64 0), .lit (.int .i64 1)]]]

/-- 'laws.FnExactTableUnit': WHATEVER THE INPUT: true; the input reads as it did. -/
def fnExactTableUnitSpec : ChangeSpec := { name := "fnExactTableUnit", vars := ["loop.example/polarisedlight/impl.zero"], fn := fun _ => fun
  | [d, g1] => { results := [.lit (.bool true)], args := [d], vars := [g1] }
  | _ => none }
def fnExactTableUnitRow : OpenClaim := { program := "ytmcokdiopcpifaadoor", sum := "a6b7f79527210aa3fab190e2f3dbbb7c9591c0d222b50b404bee2578c41061f5", func := "loop.example/polarisedlight/laws.FnExactTableUnit", spec := "fnExactTableUnit", named := ["loop.example/polarisedlight/impl.zero"], apart := false, laid := [("loop.example/polarisedlight/impl.zero", laid_loop_example_polarisedlight_impl_zero)] }
def FnExactTableUnitSaid : Prop := fnExactTableUnitRow.holds Tryd.pinned (OpenSpec.ofChange fnExactTableUnitSpec)

/-- ITS FALSE NEIGHBOUR: 'it returns false'. Refute it at one input. -/
def fnExactTableUnitWrong : ChangeSpec := { name := "fnExactTableUnit", vars := ["loop.example/polarisedlight/impl.zero"], fn := fun _ => fun
  | [d, g1] => { results := [.lit (.bool false)], args := [d], vars := [g1] }
  | _ => none }
def FnExactTableUnitWrongFalsely : Prop := fnExactTableUnitRow.holds Tryd.pinned (OpenSpec.ofChange fnExactTableUnitWrong)

/-- 'laws.FnExactTableFade': WHATEVER THE INPUT: true; the input reads as it did. -/
def fnExactTableFadeSpec : ChangeSpec := { name := "fnExactTableFade", vars := ["loop.example/polarisedlight/impl.one", "loop.example/polarisedlight/impl.zero"], fn := fun _ => fun
  | [d, g1, g2] => { results := [.lit (.bool true)], args := [d], vars := [g1, g2] }
  | _ => none }
def fnExactTableFadeRow : OpenClaim := { program := "ytmcokdiopcpifaadoor", sum := "a6b7f79527210aa3fab190e2f3dbbb7c9591c0d222b50b404bee2578c41061f5", func := "loop.example/polarisedlight/laws.FnExactTableFade", spec := "fnExactTableFade", named := ["loop.example/polarisedlight/impl.one", "loop.example/polarisedlight/impl.zero"], apart := false, laid := [("loop.example/polarisedlight/impl.zero", laid_loop_example_polarisedlight_impl_zero), ("loop.example/polarisedlight/impl.one", laid_loop_example_polarisedlight_impl_one)] }
def FnExactTableFadeSaid : Prop := fnExactTableFadeRow.holds Tryd.pinned (OpenSpec.ofChange fnExactTableFadeSpec)

/-- ITS FALSE NEIGHBOUR: 'it returns false'. Refute it at one input. -/
def fnExactTableFadeWrong : ChangeSpec := { name := "fnExactTableFade", vars := ["loop.example/polarisedlight/impl.one", "loop.example/polarisedlight/impl.zero"], fn := fun _ => fun
  | [d, g1, g2] => { results := [.lit (.bool false)], args := [d], vars := [g1, g2] }
  | _ => none }
def FnExactTableFadeWrongFalsely : Prop := fnExactTableFadeRow.holds Tryd.pinned (OpenSpec.ofChange fnExactTableFadeWrong)

/-- 'laws.FnExactMatAlike': WHATEVER THE INPUT: true; the input reads as it did. -/
def fnExactMatAlikeSpec : ChangeSpec := { name := "fnExactMatAlike", vars := ["loop.example/polarisedlight/impl.zero"], fn := fun _ => fun
  | [d1, d2, g1] => { results := [.lit (.bool true)], args := [d1, d2], vars := [g1] }
  | _ => none }
def fnExactMatAlikeRow : OpenClaim := { program := "ytmcokdiopcpifaadoor", sum := "a6b7f79527210aa3fab190e2f3dbbb7c9591c0d222b50b404bee2578c41061f5", func := "loop.example/polarisedlight/laws.FnExactMatAlike", spec := "fnExactMatAlike", named := ["loop.example/polarisedlight/impl.zero"], apart := false, laid := [("loop.example/polarisedlight/impl.zero", laid_loop_example_polarisedlight_impl_zero)] }
def FnExactMatAlikeSaid : Prop := fnExactMatAlikeRow.holds Tryd.pinned (OpenSpec.ofChange fnExactMatAlikeSpec)

/-- ITS FALSE NEIGHBOUR: 'it returns false'. Refute it at one input. -/
def fnExactMatAlikeWrong : ChangeSpec := { name := "fnExactMatAlike", vars := ["loop.example/polarisedlight/impl.zero"], fn := fun _ => fun
  | [d1, d2, g1] => { results := [.lit (.bool false)], args := [d1, d2], vars := [g1] }
  | _ => none }
def FnExactMatAlikeWrongFalsely : Prop := fnExactMatAlikeRow.holds Tryd.pinned (OpenSpec.ofChange fnExactMatAlikeWrong)

/-- 'laws.FnExactStokesVector': WHATEVER THE INPUT: true; the input reads as it did. -/
def fnExactStokesVectorSpec : ChangeSpec := { name := "fnExactStokesVector", vars := ["loop.example/polarisedlight/impl.zero", "loop.example/polarisedlight/impl.unit"], fn := fun _ => fun
  | [d, g1, g2] => { results := [.lit (.bool true)], args := [d], vars := [g1, g2] }
  | _ => none }
def fnExactStokesVectorRow : OpenClaim := { program := "ytmcokdiopcpifaadoor", sum := "a6b7f79527210aa3fab190e2f3dbbb7c9591c0d222b50b404bee2578c41061f5", func := "loop.example/polarisedlight/laws.FnExactStokesVector", spec := "fnExactStokesVector", named := ["loop.example/polarisedlight/impl.zero", "loop.example/polarisedlight/impl.unit"], apart := false, laid := [("loop.example/polarisedlight/impl.zero", laid_loop_example_polarisedlight_impl_zero), ("loop.example/polarisedlight/impl.unit", laid_loop_example_polarisedlight_impl_unit)] }
def FnExactStokesVectorSaid : Prop := fnExactStokesVectorRow.holds Tryd.pinned (OpenSpec.ofChange fnExactStokesVectorSpec)

/-- ITS FALSE NEIGHBOUR: 'it returns false'. Refute it at one input. -/
def fnExactStokesVectorWrong : ChangeSpec := { name := "fnExactStokesVector", vars := ["loop.example/polarisedlight/impl.zero", "loop.example/polarisedlight/impl.unit"], fn := fun _ => fun
  | [d, g1, g2] => { results := [.lit (.bool false)], args := [d], vars := [g1, g2] }
  | _ => none }
def FnExactStokesVectorWrongFalsely : Prop := fnExactStokesVectorRow.holds Tryd.pinned (OpenSpec.ofChange fnExactStokesVectorWrong)

/-- 'laws.FnJonesTimes': WHATEVER THE INPUT: true; the input reads as it did. -/
def fnJonesTimesSpec : ChangeSpec := { name := "fnJonesTimes", vars := ["loop.example/polarisedlight/impl.zero"], fn := fun _ => fun
  | [d, g1] => { results := [.lit (.bool true)], args := [d], vars := [g1] }
  | _ => none }
def fnJonesTimesRow : OpenClaim := { program := "ytmcokdiopcpifaadoor", sum := "a6b7f79527210aa3fab190e2f3dbbb7c9591c0d222b50b404bee2578c41061f5", func := "loop.example/polarisedlight/laws.FnJonesTimes", spec := "fnJonesTimes", named := ["loop.example/polarisedlight/impl.zero"], apart := false, laid := [("loop.example/polarisedlight/impl.zero", laid_loop_example_polarisedlight_impl_zero)] }
def FnJonesTimesSaid : Prop := fnJonesTimesRow.holds Tryd.pinned (OpenSpec.ofChange fnJonesTimesSpec)

/-- ITS FALSE NEIGHBOUR: 'it returns false'. Refute it at one input. -/
def fnJonesTimesWrong : ChangeSpec := { name := "fnJonesTimes", vars := ["loop.example/polarisedlight/impl.zero"], fn := fun _ => fun
  | [d, g1] => { results := [.lit (.bool false)], args := [d], vars := [g1] }
  | _ => none }
def FnJonesTimesWrongFalsely : Prop := fnJonesTimesRow.holds Tryd.pinned (OpenSpec.ofChange fnJonesTimesWrong)

/-- 'laws.FnJonesAlike': WHATEVER THE INPUT: true; the input reads as it did. -/
def fnJonesAlikeSpec : ChangeSpec := { name := "fnJonesAlike", vars := ["loop.example/polarisedlight/impl.zero"], fn := fun _ => fun
  | [d, g1] => { results := [.lit (.bool true)], args := [d], vars := [g1] }
  | _ => none }
def fnJonesAlikeRow : OpenClaim := { program := "ytmcokdiopcpifaadoor", sum := "a6b7f79527210aa3fab190e2f3dbbb7c9591c0d222b50b404bee2578c41061f5", func := "loop.example/polarisedlight/laws.FnJonesAlike", spec := "fnJonesAlike", named := ["loop.example/polarisedlight/impl.zero"], apart := false, laid := [("loop.example/polarisedlight/impl.zero", laid_loop_example_polarisedlight_impl_zero)] }
def FnJonesAlikeSaid : Prop := fnJonesAlikeRow.holds Tryd.pinned (OpenSpec.ofChange fnJonesAlikeSpec)

/-- ITS FALSE NEIGHBOUR: 'it returns false'. Refute it at one input. -/
def fnJonesAlikeWrong : ChangeSpec := { name := "fnJonesAlike", vars := ["loop.example/polarisedlight/impl.zero"], fn := fun _ => fun
  | [d, g1] => { results := [.lit (.bool false)], args := [d], vars := [g1] }
  | _ => none }
def FnJonesAlikeWrongFalsely : Prop := fnJonesAlikeRow.holds Tryd.pinned (OpenSpec.ofChange fnJonesAlikeWrong)

/-- 'laws.FnVector': WHATEVER THE INPUT: true; the input reads as it did. -/
def fnVectorSpec : ChangeSpec := { name := "fnVector", vars := ["loop.example/polarisedlight/impl.zero", "loop.example/polarisedlight/impl.unit"], fn := fun _ => fun
  | [d, g1, g2] => { results := [.lit (.bool true)], args := [d], vars := [g1, g2] }
  | _ => none }
def fnVectorRow : OpenClaim := { program := "ytmcokdiopcpifaadoor", sum := "a6b7f79527210aa3fab190e2f3dbbb7c9591c0d222b50b404bee2578c41061f5", func := "loop.example/polarisedlight/laws.FnVector", spec := "fnVector", named := ["loop.example/polarisedlight/impl.zero", "loop.example/polarisedlight/impl.unit"], apart := false, laid := [("loop.example/polarisedlight/impl.zero", laid_loop_example_polarisedlight_impl_zero), ("loop.example/polarisedlight/impl.unit", laid_loop_example_polarisedlight_impl_unit)] }
def FnVectorSaid : Prop := fnVectorRow.holds Tryd.pinned (OpenSpec.ofChange fnVectorSpec)

/-- ITS FALSE NEIGHBOUR: 'it returns false'. Refute it at one input. -/
def fnVectorWrong : ChangeSpec := { name := "fnVector", vars := ["loop.example/polarisedlight/impl.zero", "loop.example/polarisedlight/impl.unit"], fn := fun _ => fun
  | [d, g1, g2] => { results := [.lit (.bool false)], args := [d], vars := [g1, g2] }
  | _ => none }
def FnVectorWrongFalsely : Prop := fnVectorRow.holds Tryd.pinned (OpenSpec.ofChange fnVectorWrong)

/-- 'laws.FnPure': WHATEVER THE INPUT: true; the input reads as it did. -/
def fnPureSpec : ChangeSpec := { name := "fnPure", vars := ["loop.example/polarisedlight/impl.zero", "loop.example/polarisedlight/impl.unit"], fn := fun _ => fun
  | [d, g1, g2] => { results := [.lit (.bool true)], args := [d], vars := [g1, g2] }
  | _ => none }
def fnPureRow : OpenClaim := { program := "ytmcokdiopcpifaadoor", sum := "a6b7f79527210aa3fab190e2f3dbbb7c9591c0d222b50b404bee2578c41061f5", func := "loop.example/polarisedlight/laws.FnPure", spec := "fnPure", named := ["loop.example/polarisedlight/impl.zero", "loop.example/polarisedlight/impl.unit"], apart := false, laid := [("loop.example/polarisedlight/impl.zero", laid_loop_example_polarisedlight_impl_zero), ("loop.example/polarisedlight/impl.unit", laid_loop_example_polarisedlight_impl_unit)] }
def FnPureSaid : Prop := fnPureRow.holds Tryd.pinned (OpenSpec.ofChange fnPureSpec)

/-- ITS FALSE NEIGHBOUR: 'it returns false'. Refute it at one input. -/
def fnPureWrong : ChangeSpec := { name := "fnPure", vars := ["loop.example/polarisedlight/impl.zero", "loop.example/polarisedlight/impl.unit"], fn := fun _ => fun
  | [d, g1, g2] => { results := [.lit (.bool false)], args := [d], vars := [g1, g2] }
  | _ => none }
def FnPureWrongFalsely : Prop := fnPureRow.holds Tryd.pinned (OpenSpec.ofChange fnPureWrong)

/-- 'laws.FnUnit': WHATEVER THE INPUT: true; the input reads as it did. -/
def fnUnitSpec : ChangeSpec := { name := "fnUnit", vars := ["loop.example/polarisedlight/impl.zero"], fn := fun _ => fun
  | [d, g1] => { results := [.lit (.bool true)], args := [d], vars := [g1] }
  | _ => none }
def fnUnitRow : OpenClaim := { program := "ytmcokdiopcpifaadoor", sum := "a6b7f79527210aa3fab190e2f3dbbb7c9591c0d222b50b404bee2578c41061f5", func := "loop.example/polarisedlight/laws.FnUnit", spec := "fnUnit", named := ["loop.example/polarisedlight/impl.zero"], apart := false, laid := [("loop.example/polarisedlight/impl.zero", laid_loop_example_polarisedlight_impl_zero)] }
def FnUnitSaid : Prop := fnUnitRow.holds Tryd.pinned (OpenSpec.ofChange fnUnitSpec)

/-- ITS FALSE NEIGHBOUR: 'it returns false'. Refute it at one input. -/
def fnUnitWrong : ChangeSpec := { name := "fnUnit", vars := ["loop.example/polarisedlight/impl.zero"], fn := fun _ => fun
  | [d, g1] => { results := [.lit (.bool false)], args := [d], vars := [g1] }
  | _ => none }
def FnUnitWrongFalsely : Prop := fnUnitRow.holds Tryd.pinned (OpenSpec.ofChange fnUnitWrong)

/-- 'laws.FnPlate': WHATEVER THE INPUT: true; the input reads as it did. -/
def fnPlateSpec : ChangeSpec := { name := "fnPlate", vars := ["loop.example/polarisedlight/impl.one", "loop.example/polarisedlight/impl.zero", "loop.example/polarisedlight/impl.turns", "loop.example/polarisedlight/impl.same"], fn := fun _ => fun
  | [d, g1, g2, g3, g4] => { results := [.lit (.bool true)], args := [d], vars := [g1, g2, g3, g4] }
  | _ => none }
def fnPlateRow : OpenClaim := { program := "ytmcokdiopcpifaadoor", sum := "a6b7f79527210aa3fab190e2f3dbbb7c9591c0d222b50b404bee2578c41061f5", func := "loop.example/polarisedlight/laws.FnPlate", spec := "fnPlate", unfollowed := true, recurses := true, named := ["loop.example/polarisedlight/impl.one", "loop.example/polarisedlight/impl.zero", "loop.example/polarisedlight/impl.turns", "loop.example/polarisedlight/impl.same"], apart := false, laid := [("loop.example/polarisedlight/impl.zero", laid_loop_example_polarisedlight_impl_zero), ("loop.example/polarisedlight/impl.one", laid_loop_example_polarisedlight_impl_one), ("loop.example/polarisedlight/impl.turns", laid_loop_example_polarisedlight_impl_turns), ("loop.example/polarisedlight/impl.same", laid_loop_example_polarisedlight_impl_same)] }
def FnPlateSaid : Prop := fnPlateRow.holds Tryd.pinned (OpenSpec.ofChange fnPlateSpec)

/-- ITS FALSE NEIGHBOUR: 'it returns false'. Refute it at one input. -/
def fnPlateWrong : ChangeSpec := { name := "fnPlate", vars := ["loop.example/polarisedlight/impl.one", "loop.example/polarisedlight/impl.zero", "loop.example/polarisedlight/impl.turns", "loop.example/polarisedlight/impl.same"], fn := fun _ => fun
  | [d, g1, g2, g3, g4] => { results := [.lit (.bool false)], args := [d], vars := [g1, g2, g3, g4] }
  | _ => none }
def FnPlateWrongFalsely : Prop := fnPlateRow.holds Tryd.pinned (OpenSpec.ofChange fnPlateWrong)

/-- 'laws.FnScale': WHATEVER THE INPUT: true; the input reads as it did. -/
def fnScaleSpec : ChangeSpec := { name := "fnScale", vars := ["loop.example/polarisedlight/impl.zero"], fn := fun _ => fun
  | [d, g1] => { results := [.lit (.bool true)], args := [d], vars := [g1] }
  | _ => none }
def fnScaleRow : OpenClaim := { program := "ytmcokdiopcpifaadoor", sum := "a6b7f79527210aa3fab190e2f3dbbb7c9591c0d222b50b404bee2578c41061f5", func := "loop.example/polarisedlight/laws.FnScale", spec := "fnScale", named := ["loop.example/polarisedlight/impl.zero"], apart := false, laid := [("loop.example/polarisedlight/impl.zero", laid_loop_example_polarisedlight_impl_zero)] }
def FnScaleSaid : Prop := fnScaleRow.holds Tryd.pinned (OpenSpec.ofChange fnScaleSpec)

/-- ITS FALSE NEIGHBOUR: 'it returns false'. Refute it at one input. -/
def fnScaleWrong : ChangeSpec := { name := "fnScale", vars := ["loop.example/polarisedlight/impl.zero"], fn := fun _ => fun
  | [d, g1] => { results := [.lit (.bool false)], args := [d], vars := [g1] }
  | _ => none }
def FnScaleWrongFalsely : Prop := fnScaleRow.holds Tryd.pinned (OpenSpec.ofChange fnScaleWrong)

/-- 'laws.FnMatAlike': WHATEVER THE INPUT: true; the input reads as it did. -/
def fnMatAlikeSpec : ChangeSpec := { name := "fnMatAlike", vars := ["loop.example/polarisedlight/impl.zero"], fn := fun _ => fun
  | [d, g1] => { results := [.lit (.bool true)], args := [d], vars := [g1] }
  | _ => none }
def fnMatAlikeRow : OpenClaim := { program := "ytmcokdiopcpifaadoor", sum := "a6b7f79527210aa3fab190e2f3dbbb7c9591c0d222b50b404bee2578c41061f5", func := "loop.example/polarisedlight/laws.FnMatAlike", spec := "fnMatAlike", unfollowed := true, recurses := true, named := ["loop.example/polarisedlight/impl.zero"], apart := false, laid := [("loop.example/polarisedlight/impl.zero", laid_loop_example_polarisedlight_impl_zero)] }
def FnMatAlikeSaid : Prop := fnMatAlikeRow.holds Tryd.pinned (OpenSpec.ofChange fnMatAlikeSpec)

/-- ITS FALSE NEIGHBOUR: 'it returns false'. Refute it at one input. -/
def fnMatAlikeWrong : ChangeSpec := { name := "fnMatAlike", vars := ["loop.example/polarisedlight/impl.zero"], fn := fun _ => fun
  | [d, g1] => { results := [.lit (.bool false)], args := [d], vars := [g1] }
  | _ => none }
def FnMatAlikeWrongFalsely : Prop := fnMatAlikeRow.holds Tryd.pinned (OpenSpec.ofChange fnMatAlikeWrong)

/- THE SECOND FORM. 'bulk': how many values and letters a reading holds, each counted each time it is reached (what is shared counts as often as it is met; a slice's spare places count too). A statement '..UptoSaid' is the law's where the arguments, and the package variables that the reading takes, are together of bulk at most 1048576: NARROWER than '..Said'. Prove '..Said' where nothing that the law and all that it calls make is longer than what came in: it says more and counts as full. Else prove '..UptoSaid'. A law counts once. -/
mutual
def uptoBulk {H : Type} : DataW H → Nat
  | .lit (.string bytes) => bytes.length + 1
  | .lit _ => 1
  | .nil => 1
  | .ptr d => uptoBulk d + 1
  | .slice elems spare => uptoBulkAll elems + uptoBulkAll spare + 1
  | .agg parts => uptoBulkAll parts + 1
  | .iface _ d => uptoBulk d + 1
  | .map entries => uptoBulkEntries entries + 1
  | .held _ => 1
def uptoBulkAll {H : Type} : List (DataW H) → Nat
  | [] => 0
  | d :: r => uptoBulk d + uptoBulkAll r
def uptoBulkEntries {H : Type} : List (Lit × DataW H) → Nat
  | [] => 0
  | x :: r => uptoBulkEntry x + uptoBulkEntries r
def uptoBulkEntry {H : Type} : Lit × DataW H → Nat
  | (.string bytes, d) => bytes.length + uptoBulk d + 1
  | (_, d) => uptoBulk d + 1
 end
def uptoSmall : (H : Type) → List (DataW H) → Bool := fun _ ds => decide (uptoBulkAll ds ≤ 1048576)
def OpenSpec.upto (s : _root_.Go.ChangeSpec) : _root_.Go.OpenSpec := { _root_.Go.OpenSpec.ofChange s with cond := some uptoSmall }

/-- 'laws.FnExactTableUnit', WHERE WHAT IT READS IS OF BULK AT MOST 1048576: true; the input reads as it did. -/
def fnExactTableUnitUptoRow : OpenClaim := { program := "ytmcokdiopcpifaadoor", sum := "a6b7f79527210aa3fab190e2f3dbbb7c9591c0d222b50b404bee2578c41061f5", func := "loop.example/polarisedlight/laws.FnExactTableUnit", spec := "fnExactTableUnit", named := ["loop.example/polarisedlight/impl.zero"], apart := false, laid := [("loop.example/polarisedlight/impl.zero", laid_loop_example_polarisedlight_impl_zero)], narrowed := true }
def FnExactTableUnitUptoSaid : Prop := fnExactTableUnitUptoRow.holds Tryd.pinned (OpenSpec.upto fnExactTableUnitSpec)

/-- 'laws.FnExactTableFade', WHERE WHAT IT READS IS OF BULK AT MOST 1048576: true; the input reads as it did. -/
def fnExactTableFadeUptoRow : OpenClaim := { program := "ytmcokdiopcpifaadoor", sum := "a6b7f79527210aa3fab190e2f3dbbb7c9591c0d222b50b404bee2578c41061f5", func := "loop.example/polarisedlight/laws.FnExactTableFade", spec := "fnExactTableFade", named := ["loop.example/polarisedlight/impl.one", "loop.example/polarisedlight/impl.zero"], apart := false, laid := [("loop.example/polarisedlight/impl.zero", laid_loop_example_polarisedlight_impl_zero), ("loop.example/polarisedlight/impl.one", laid_loop_example_polarisedlight_impl_one)], narrowed := true }
def FnExactTableFadeUptoSaid : Prop := fnExactTableFadeUptoRow.holds Tryd.pinned (OpenSpec.upto fnExactTableFadeSpec)

/-- 'laws.FnExactMatAlike', WHERE WHAT IT READS IS OF BULK AT MOST 1048576: true; the input reads as it did. -/
def fnExactMatAlikeUptoRow : OpenClaim := { program := "ytmcokdiopcpifaadoor", sum := "a6b7f79527210aa3fab190e2f3dbbb7c9591c0d222b50b404bee2578c41061f5", func := "loop.example/polarisedlight/laws.FnExactMatAlike", spec := "fnExactMatAlike", named := ["loop.example/polarisedlight/impl.zero"], apart := false, laid := [("loop.example/polarisedlight/impl.zero", laid_loop_example_polarisedlight_impl_zero)], narrowed := true }
def FnExactMatAlikeUptoSaid : Prop := fnExactMatAlikeUptoRow.holds Tryd.pinned (OpenSpec.upto fnExactMatAlikeSpec)

/-- 'laws.FnExactStokesVector', WHERE WHAT IT READS IS OF BULK AT MOST 1048576: true; the input reads as it did. -/
def fnExactStokesVectorUptoRow : OpenClaim := { program := "ytmcokdiopcpifaadoor", sum := "a6b7f79527210aa3fab190e2f3dbbb7c9591c0d222b50b404bee2578c41061f5", func := "loop.example/polarisedlight/laws.FnExactStokesVector", spec := "fnExactStokesVector", named := ["loop.example/polarisedlight/impl.zero", "loop.example/polarisedlight/impl.unit"], apart := false, laid := [("loop.example/polarisedlight/impl.zero", laid_loop_example_polarisedlight_impl_zero), ("loop.example/polarisedlight/impl.unit", laid_loop_example_polarisedlight_impl_unit)], narrowed := true }
def FnExactStokesVectorUptoSaid : Prop := fnExactStokesVectorUptoRow.holds Tryd.pinned (OpenSpec.upto fnExactStokesVectorSpec)

/-- 'laws.FnJonesTimes', WHERE WHAT IT READS IS OF BULK AT MOST 1048576: true; the input reads as it did. -/
def fnJonesTimesUptoRow : OpenClaim := { program := "ytmcokdiopcpifaadoor", sum := "a6b7f79527210aa3fab190e2f3dbbb7c9591c0d222b50b404bee2578c41061f5", func := "loop.example/polarisedlight/laws.FnJonesTimes", spec := "fnJonesTimes", named := ["loop.example/polarisedlight/impl.zero"], apart := false, laid := [("loop.example/polarisedlight/impl.zero", laid_loop_example_polarisedlight_impl_zero)], narrowed := true }
def FnJonesTimesUptoSaid : Prop := fnJonesTimesUptoRow.holds Tryd.pinned (OpenSpec.upto fnJonesTimesSpec)

/-- 'laws.FnJonesAlike', WHERE WHAT IT READS IS OF BULK AT MOST 1048576: true; the input reads as it did. -/
def fnJonesAlikeUptoRow : OpenClaim := { program := "ytmcokdiopcpifaadoor", sum := "a6b7f79527210aa3fab190e2f3dbbb7c9591c0d222b50b404bee2578c41061f5", func := "loop.example/polarisedlight/laws.FnJonesAlike", spec := "fnJonesAlike", named := ["loop.example/polarisedlight/impl.zero"], apart := false, laid := [("loop.example/polarisedlight/impl.zero", laid_loop_example_polarisedlight_impl_zero)], narrowed := true }
def FnJonesAlikeUptoSaid : Prop := fnJonesAlikeUptoRow.holds Tryd.pinned (OpenSpec.upto fnJonesAlikeSpec)

/-- 'laws.FnVector', WHERE WHAT IT READS IS OF BULK AT MOST 1048576: true; the input reads as it did. -/
def fnVectorUptoRow : OpenClaim := { program := "ytmcokdiopcpifaadoor", sum := "a6b7f79527210aa3fab190e2f3dbbb7c9591c0d222b50b404bee2578c41061f5", func := "loop.example/polarisedlight/laws.FnVector", spec := "fnVector", named := ["loop.example/polarisedlight/impl.zero", "loop.example/polarisedlight/impl.unit"], apart := false, laid := [("loop.example/polarisedlight/impl.zero", laid_loop_example_polarisedlight_impl_zero), ("loop.example/polarisedlight/impl.unit", laid_loop_example_polarisedlight_impl_unit)], narrowed := true }
def FnVectorUptoSaid : Prop := fnVectorUptoRow.holds Tryd.pinned (OpenSpec.upto fnVectorSpec)

/-- 'laws.FnPure', WHERE WHAT IT READS IS OF BULK AT MOST 1048576: true; the input reads as it did. -/
def fnPureUptoRow : OpenClaim := { program := "ytmcokdiopcpifaadoor", sum := "a6b7f79527210aa3fab190e2f3dbbb7c9591c0d222b50b404bee2578c41061f5", func := "loop.example/polarisedlight/laws.FnPure", spec := "fnPure", named := ["loop.example/polarisedlight/impl.zero", "loop.example/polarisedlight/impl.unit"], apart := false, laid := [("loop.example/polarisedlight/impl.zero", laid_loop_example_polarisedlight_impl_zero), ("loop.example/polarisedlight/impl.unit", laid_loop_example_polarisedlight_impl_unit)], narrowed := true }
def FnPureUptoSaid : Prop := fnPureUptoRow.holds Tryd.pinned (OpenSpec.upto fnPureSpec)

/-- 'laws.FnUnit', WHERE WHAT IT READS IS OF BULK AT MOST 1048576: true; the input reads as it did. -/
def fnUnitUptoRow : OpenClaim := { program := "ytmcokdiopcpifaadoor", sum := "a6b7f79527210aa3fab190e2f3dbbb7c9591c0d222b50b404bee2578c41061f5", func := "loop.example/polarisedlight/laws.FnUnit", spec := "fnUnit", named := ["loop.example/polarisedlight/impl.zero"], apart := false, laid := [("loop.example/polarisedlight/impl.zero", laid_loop_example_polarisedlight_impl_zero)], narrowed := true }
def FnUnitUptoSaid : Prop := fnUnitUptoRow.holds Tryd.pinned (OpenSpec.upto fnUnitSpec)

/-- 'laws.FnPlate', WHERE WHAT IT READS IS OF BULK AT MOST 1048576: true; the input reads as it did. -/
def fnPlateUptoRow : OpenClaim := { program := "ytmcokdiopcpifaadoor", sum := "a6b7f79527210aa3fab190e2f3dbbb7c9591c0d222b50b404bee2578c41061f5", func := "loop.example/polarisedlight/laws.FnPlate", spec := "fnPlate", unfollowed := true, recurses := true, named := ["loop.example/polarisedlight/impl.one", "loop.example/polarisedlight/impl.zero", "loop.example/polarisedlight/impl.turns", "loop.example/polarisedlight/impl.same"], apart := false, laid := [("loop.example/polarisedlight/impl.zero", laid_loop_example_polarisedlight_impl_zero), ("loop.example/polarisedlight/impl.one", laid_loop_example_polarisedlight_impl_one), ("loop.example/polarisedlight/impl.turns", laid_loop_example_polarisedlight_impl_turns), ("loop.example/polarisedlight/impl.same", laid_loop_example_polarisedlight_impl_same)], narrowed := true }
def FnPlateUptoSaid : Prop := fnPlateUptoRow.holds Tryd.pinned (OpenSpec.upto fnPlateSpec)

/-- 'laws.FnScale', WHERE WHAT IT READS IS OF BULK AT MOST 1048576: true; the input reads as it did. -/
def fnScaleUptoRow : OpenClaim := { program := "ytmcokdiopcpifaadoor", sum := "a6b7f79527210aa3fab190e2f3dbbb7c9591c0d222b50b404bee2578c41061f5", func := "loop.example/polarisedlight/laws.FnScale", spec := "fnScale", named := ["loop.example/polarisedlight/impl.zero"], apart := false, laid := [("loop.example/polarisedlight/impl.zero", laid_loop_example_polarisedlight_impl_zero)], narrowed := true }
def FnScaleUptoSaid : Prop := fnScaleUptoRow.holds Tryd.pinned (OpenSpec.upto fnScaleSpec)

/-- 'laws.FnMatAlike', WHERE WHAT IT READS IS OF BULK AT MOST 1048576: true; the input reads as it did. -/
def fnMatAlikeUptoRow : OpenClaim := { program := "ytmcokdiopcpifaadoor", sum := "a6b7f79527210aa3fab190e2f3dbbb7c9591c0d222b50b404bee2578c41061f5", func := "loop.example/polarisedlight/laws.FnMatAlike", spec := "fnMatAlike", unfollowed := true, recurses := true, named := ["loop.example/polarisedlight/impl.zero"], apart := false, laid := [("loop.example/polarisedlight/impl.zero", laid_loop_example_polarisedlight_impl_zero)], narrowed := true }
def FnMatAlikeUptoSaid : Prop := fnMatAlikeUptoRow.holds Tryd.pinned (OpenSpec.upto fnMatAlikeSpec)

end Rows
end Go.Proofs.YtmcokdiopcpifaaDoor
